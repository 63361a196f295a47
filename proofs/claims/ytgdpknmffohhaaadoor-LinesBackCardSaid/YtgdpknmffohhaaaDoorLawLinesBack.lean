/- LinesBack, walked. -/
import Derived.Test.YtgdpknmffohhaaaDoorLineBackPure
import Derived.Test.YtgdpknmffohhaaaDoorLineAwake
namespace Go.Proofs.YtgdpknmffohhaaaDoor.Pl
open Go.RowKit Go.Lib Go.Proofs.YtgdpknmffohhaaaDoorW.PrintWords Go.Proofs.YtgdpknmffohhaaaDoorW.PrintLast Go.Proofs.YtgdpknmffohhaaaDoorW.PrintMore
set_option linter.unusedVariables false
set_option maxRecDepth 100000 in
set_option maxHeartbeats 20000000 in
theorem LinesBack_calls_ (x : Ln) (at_ : Int) (v : Value) (w : World) (hx : RdL w v x) (hok : ∀ c ∈ x.cs, c.f2.size ≤ 140737488355328) (hat_ : (Lit.int .i64 at_).wf = true) (hG : Gl_ w) :
    Calls Tryd.prog 9 #[v, .int .i64 at_] w fun e w' => e = .returned (.bool true) ∧ Below w.heap.size w w' := by
  have hu38 := Tryd.underlying38
  clear hat_
  have HLG := Aside0.mk (fun W (hW : Below w.heap.size w W) => long06_calls_ x v W (hx.below hW) hok)
  obtain ⟨_, _, rfl, ⟨A1, c1, rfl, h1, hc1⟩, ⟨A3, c3, rfl, h3, hc3⟩⟩ := hx
  have HX := Aside0.mk (show RdL w (.agg #[.int .i64 x.q, .slice A1 x.ls.length c1, .int .i64 x.k, .slice A3 x.cs.length c3]) x from ⟨_, _, rfl, ⟨A1, c1, rfl, h1, hc1⟩, ⟨A3, c3, rfl, h3, hc3⟩⟩)
  have HAW := Aside0.mk (fun W (hW : Below w.heap.size w W) => awake06_calls_ W (hG.below hW))
  have HG := Aside0.mk hG
  have F0 := heap_alloc_new w (.cells #[.int .i64 x.q, .slice A1 x.ls.length c1, .int .i64 x.k, .slice A3 x.cs.length c3] 38)
  have FB := below_alloc (Below.refl w.heap.size w) (.cells #[.int .i64 x.q, .slice A1 x.ls.length c1, .int .i64 x.k, .slice A3 x.cs.length c3] 38)
  clear h1 h3 hc1 hc3 hok hG
  go_enter Tryd.func9, Tryd.ntmps9
  go_upto_region 1 with (fail)
  generalize w.alloc (.cells #[.int .i64 x.q, .slice A1 x.ls.length c1, .int .i64 x.k, .slice A3 x.cs.length c3] 38) = W0 at F0 FB ⊢
  have p0 : W0.cell? ⟨w.heap.size, 0, none⟩ = some (.int .i64 x.q) := (blk_cell F0 0).trans rfl
  have p1 : W0.cell? ⟨w.heap.size, 1, none⟩ = some (.slice A1 x.ls.length c1) := (blk_cell F0 1).trans rfl
  have p2 : W0.cell? ⟨w.heap.size, 2, none⟩ = some (.int .i64 x.k) := (blk_cell F0 2).trans rfl
  have p3 : W0.cell? ⟨w.heap.size, 3, none⟩ = some (.slice A3 x.cs.length c3) := (blk_cell F0 3).trans rfl
  have HF0 := Aside0.mk F0
  have HFB := Aside0.mk FB
  clear F0 FB
  cases hlg : longL x with
  | true =>
    rw [hlg] at HLG
    go_wp2_with (first | (go_at_call 24; refine (HLG.out _ HFB.out).mono ?_; rintro e w1 ⟨rfl, hb⟩; have HB1 := Aside0.mk hb; have fb := blk_below HF0.out hb; have r0 : w1.cell? ⟨w.heap.size, 0, none⟩ = some (.int .i64 x.q) := (blk_cell fb 0).trans rfl; have r1 : w1.cell? ⟨w.heap.size, 1, none⟩ = some (.slice A1 x.ls.length c1) := (blk_cell fb 1).trans rfl; have r2 : w1.cell? ⟨w.heap.size, 2, none⟩ = some (.int .i64 x.k) := (blk_cell fb 2).trans rfl; have r3 : w1.cell? ⟨w.heap.size, 3, none⟩ = some (.slice A3 x.cs.length c3) := (blk_cell fb 3).trans rfl; have HF1 := Aside0.mk fb; clear hb fb) | (go_at_call 25; refine (HAW.out _ (below_step HFB.out HB1.out)).mono ?_; rintro e wz ⟨rfl, hb⟩; have HBZ := Aside0.mk hb; clear hb))
    go_ret
    exact ⟨rfl, below_step (below_step HFB.out HB1.out) HBZ.out⟩
  | false =>
    rw [hlg] at HLG
    have hz := longL_Sz hlg
    have HMY := Aside0.mk (fun W (hW : Below w.heap.size w W) => may_calls_ x _ W (HX.out.below hW) hz (HG.out.below hW))
    have HZ := Aside0.mk hz
    clear hz hlg
    cases hm : mayL x with
    | false =>
      rw [hm] at HMY
      go_wp2_with (first | (go_at_call 24; refine (HLG.out _ HFB.out).mono ?_; rintro e w1 ⟨rfl, hb⟩; have HB1 := Aside0.mk hb; have fb := blk_below HF0.out hb; have r0 : w1.cell? ⟨w.heap.size, 0, none⟩ = some (.int .i64 x.q) := (blk_cell fb 0).trans rfl; have r1 : w1.cell? ⟨w.heap.size, 1, none⟩ = some (.slice A1 x.ls.length c1) := (blk_cell fb 1).trans rfl; have r2 : w1.cell? ⟨w.heap.size, 2, none⟩ = some (.int .i64 x.k) := (blk_cell fb 2).trans rfl; have r3 : w1.cell? ⟨w.heap.size, 3, none⟩ = some (.slice A3 x.cs.length c3) := (blk_cell fb 3).trans rfl; have HF1 := Aside0.mk fb; clear hb fb) | (go_at_call 37; refine (HMY.out _ (below_step HFB.out HB1.out)).mono ?_; rintro e w2 ⟨rfl, hb⟩; have HB2 := Aside0.mk hb; have fb := blk_below HF1.out hb; have t0 : w2.cell? ⟨w.heap.size, 0, none⟩ = some (.int .i64 x.q) := (blk_cell fb 0).trans rfl; have t1 : w2.cell? ⟨w.heap.size, 1, none⟩ = some (.slice A1 x.ls.length c1) := (blk_cell fb 1).trans rfl; have t2 : w2.cell? ⟨w.heap.size, 2, none⟩ = some (.int .i64 x.k) := (blk_cell fb 2).trans rfl; have t3 : w2.cell? ⟨w.heap.size, 3, none⟩ = some (.slice A3 x.cs.length c3) := (blk_cell fb 3).trans rfl; have HF2 := Aside0.mk fb; clear hb fb) | (go_at_call 25; refine (HAW.out _ (below_step (below_step HFB.out HB1.out) HB2.out)).mono ?_; rintro e wz ⟨rfl, hb⟩; have HBZ := Aside0.mk hb; clear hb))
      go_ret
      exact ⟨rfl, below_step (below_step (below_step HFB.out HB1.out) HB2.out) HBZ.out⟩
    | true =>
      rw [hm] at HMY
      have HM := Aside0.mk hm
      clear hm
      have HI := Aside0.mk (fun W (hW : Below w.heap.size w W) => indent_calls_ x _ W (HX.out.below hW) HZ.out (HG.out.below hW))
      by_cases hof : nOf x = 0
      case' pos =>
        rw [in_none HM.out hof] at HI
        clear hof
        go_upto_region 4 with (first | (go_at_call 24; refine (HLG.out _ HFB.out).mono ?_; rintro e w1 ⟨rfl, hb⟩; have HB1 := Aside0.mk hb; have fb := blk_below HF0.out hb; have r0 : w1.cell? ⟨w.heap.size, 0, none⟩ = some (.int .i64 x.q) := (blk_cell fb 0).trans rfl; have r1 : w1.cell? ⟨w.heap.size, 1, none⟩ = some (.slice A1 x.ls.length c1) := (blk_cell fb 1).trans rfl; have r2 : w1.cell? ⟨w.heap.size, 2, none⟩ = some (.int .i64 x.k) := (blk_cell fb 2).trans rfl; have r3 : w1.cell? ⟨w.heap.size, 3, none⟩ = some (.slice A3 x.cs.length c3) := (blk_cell fb 3).trans rfl; have HF1 := Aside0.mk fb; clear hb fb) | (go_at_call 37; refine (HMY.out _ (below_step HFB.out HB1.out)).mono ?_; rintro e w2 ⟨rfl, hb⟩; have HB2 := Aside0.mk hb; have fb := blk_below HF1.out hb; have t0 : w2.cell? ⟨w.heap.size, 0, none⟩ = some (.int .i64 x.q) := (blk_cell fb 0).trans rfl; have t1 : w2.cell? ⟨w.heap.size, 1, none⟩ = some (.slice A1 x.ls.length c1) := (blk_cell fb 1).trans rfl; have t2 : w2.cell? ⟨w.heap.size, 2, none⟩ = some (.int .i64 x.k) := (blk_cell fb 2).trans rfl; have t3 : w2.cell? ⟨w.heap.size, 3, none⟩ = some (.slice A3 x.cs.length c3) := (blk_cell fb 3).trans rfl; have HF2 := Aside0.mk fb; clear hb fb) | (go_at_call 42; refine (HI.out _ (below_step (below_step HFB.out HB1.out) HB2.out)).mono ?_; rintro e w3 hbk; obtain ⟨G1, G1', G3, G3', rfl, hw, hb⟩ := hbk.low (w := w); dsimp only at hw; have HW3 := Aside0.mk hw; have HB3 := Aside0.mk hb; clear hw hb))
        have FL := below_alloc (Below.refl w3.heap.size w3) (.cells #[.int .i64 0, .slice G1 0 G1', .int .i64 0, .slice G3 0 G3'] 38)
        generalize hW8 : w3.alloc (.cells #[.int .i64 0, .slice G1 0 G1', .int .i64 0, .slice G3 0 G3'] 38) = W8 at FL ⊢
        have HB8 := Aside0.mk (below_step (below_step (below_step (below_step HFB.out HB1.out) HB2.out) HB3.out) FL)
        have HF8 := Aside0.mk (blk_below (blk_below HF2.out HB3.out) FL)
        clear hW8 FL HB1 HB2 HB3 HF0 HF1 HF2 HFB HLG HMY HI HW3 p0 p1 p2 p3 r0 r1 r2 r3 t0 t1 t2 t3
        generalize w3.heap.size = b5
        go_upto_region 8 with (fail)
      case' neg =>
        obtain ⟨y, hy1, hy2, hy3, hy4⟩ := in_out HM.out hof
        rw [hy1] at HI
        have HY2 := Aside0.mk hy2
        have HZY := Aside0.mk (Sz_of HZ.out hy3 hy4)
        clear hof hy1 hy2 hy3 hy4
        go_upto_region 5 with (first | (go_at_call 24; refine (HLG.out _ HFB.out).mono ?_; rintro e w1 ⟨rfl, hb⟩; have HB1 := Aside0.mk hb; have fb := blk_below HF0.out hb; have r0 : w1.cell? ⟨w.heap.size, 0, none⟩ = some (.int .i64 x.q) := (blk_cell fb 0).trans rfl; have r1 : w1.cell? ⟨w.heap.size, 1, none⟩ = some (.slice A1 x.ls.length c1) := (blk_cell fb 1).trans rfl; have r2 : w1.cell? ⟨w.heap.size, 2, none⟩ = some (.int .i64 x.k) := (blk_cell fb 2).trans rfl; have r3 : w1.cell? ⟨w.heap.size, 3, none⟩ = some (.slice A3 x.cs.length c3) := (blk_cell fb 3).trans rfl; have HF1 := Aside0.mk fb; clear hb fb) | (go_at_call 37; refine (HMY.out _ (below_step HFB.out HB1.out)).mono ?_; rintro e w2 ⟨rfl, hb⟩; have HB2 := Aside0.mk hb; have fb := blk_below HF1.out hb; have t0 : w2.cell? ⟨w.heap.size, 0, none⟩ = some (.int .i64 x.q) := (blk_cell fb 0).trans rfl; have t1 : w2.cell? ⟨w.heap.size, 1, none⟩ = some (.slice A1 x.ls.length c1) := (blk_cell fb 1).trans rfl; have t2 : w2.cell? ⟨w.heap.size, 2, none⟩ = some (.int .i64 x.k) := (blk_cell fb 2).trans rfl; have t3 : w2.cell? ⟨w.heap.size, 3, none⟩ = some (.slice A3 x.cs.length c3) := (blk_cell fb 3).trans rfl; have HF2 := Aside0.mk fb; clear hb fb) | (go_at_call 42; refine (HI.out _ (below_step (below_step HFB.out HB1.out) HB2.out)).mono ?_; rintro e w3 hbk; obtain ⟨G1, G1', G3, G3', rfl, hw, hb⟩ := hbk.low (w := w); dsimp only at hw; have HW3 := Aside0.mk hw; have HB3 := Aside0.mk hb; clear hw hb))
        have FC := heap_alloc_new w3 (.cells #[.int .i64 y.q, .slice G1 y.ls.length G1', .int .i64 y.k, .slice G3 y.cs.length G3'] 38)
        have FL := below_alloc (Below.refl w3.heap.size w3) (.cells #[.int .i64 y.q, .slice G1 y.ls.length G1', .int .i64 y.k, .slice G3 y.cs.length G3'] 38)
        have HYR := Aside0.mk (HW3.out.rd.below FL)
        have HB4 := Aside0.mk (below_step (below_step (below_step (below_step HFB.out HB1.out) HB2.out) HB3.out) FL)
        have HF4 := Aside0.mk (blk_below (blk_below HF2.out HB3.out) FL)
        generalize w3.alloc (.cells #[.int .i64 y.q, .slice G1 y.ls.length G1', .int .i64 y.k, .slice G3 y.cs.length G3'] 38) = W4 at FC FL HYR HB4 HF4 ⊢
        generalize w3.heap.size = b5 at FC ⊢
        have a0 : W4.cell? ⟨b5, 0, none⟩ = some (.int .i64 y.q) := (blk_cell FC 0).trans rfl
        have a1 : W4.cell? ⟨b5, 1, none⟩ = some (.slice G1 y.ls.length G1') := (blk_cell FC 1).trans rfl
        have a2 : W4.cell? ⟨b5, 2, none⟩ = some (.int .i64 y.k) := (blk_cell FC 2).trans rfl
        have a3 : W4.cell? ⟨b5, 3, none⟩ = some (.slice G3 y.cs.length G3') := (blk_cell FC 3).trans rfl
        clear FC FL HB1 HB2 HB3 HF0 HF1 HF2 HFB HLG HMY HI HW3 p0 p1 p2 p3 r0 r1 r2 r3 t0 t1 t2 t3
        have HO := Aside0.mk (outdent_calls_ y _ W4 HYR.out HZY.out (HG.out.below HB4.out))
        rw [HY2.out] at HO
        go_upto_region 6 with (go_at_call 43; refine HO.out.mono ?_; rintro e w5 hbk; obtain ⟨D1, D1', D3, D3', rfl, hw, hb⟩ := hbk.low (w := w); dsimp only at hw; have HW5 := Aside0.mk hw; have HB5 := Aside0.mk hb; clear hw hb)
        have FC := heap_alloc_new w5 (.cells #[.int .i64 x.q, .slice D1 x.ls.length D1', .int .i64 x.k, .slice D3 x.cs.length D3'] 38)
        have FL := below_alloc (Below.refl w5.heap.size w5) (.cells #[.int .i64 x.q, .slice D1 x.ls.length D1', .int .i64 x.k, .slice D3 x.cs.length D3'] 38)
        have HXR := Aside0.mk (HW5.out.rd.below FL)
        have HB6 := Aside0.mk (below_step (below_step HB4.out HB5.out) FL)
        have F6 := blk_below (blk_below HF4.out HB5.out) FL
        generalize w5.alloc (.cells #[.int .i64 x.q, .slice D1 x.ls.length D1', .int .i64 x.k, .slice D3 x.cs.length D3'] 38) = W6 at FC FL HXR HB6 F6 ⊢
        generalize w5.heap.size = b7 at FC ⊢
        have d0 : W6.cell? ⟨b7, 0, none⟩ = some (.int .i64 x.q) := (blk_cell FC 0).trans rfl
        have d1 : W6.cell? ⟨b7, 1, none⟩ = some (.slice D1 x.ls.length D1') := (blk_cell FC 1).trans rfl
        have d2 : W6.cell? ⟨b7, 2, none⟩ = some (.int .i64 x.k) := (blk_cell FC 2).trans rfl
        have d3 : W6.cell? ⟨b7, 3, none⟩ = some (.slice D3 x.cs.length D3') := (blk_cell FC 3).trans rfl
        have b0 : W6.cell? ⟨w.heap.size, 0, none⟩ = some (.int .i64 x.q) := (blk_cell F6 0).trans rfl
        have b1 : W6.cell? ⟨w.heap.size, 1, none⟩ = some (.slice A1 x.ls.length c1) := (blk_cell F6 1).trans rfl
        have b2 : W6.cell? ⟨w.heap.size, 2, none⟩ = some (.int .i64 x.k) := (blk_cell F6 2).trans rfl
        have b3 : W6.cell? ⟨w.heap.size, 3, none⟩ = some (.slice A3 x.cs.length c3) := (blk_cell F6 3).trans rfl
        have HF6 := Aside0.mk F6
        clear F6 FC FL HB4 HB5 HF4 HW5 HO HYR HY2 HZY a0 a1 a2 a3
        have HS := Aside0.mk (same_calls_ x x _ (.agg #[.int .i64 x.q, .slice A1 x.ls.length c1, .int .i64 x.k, .slice A3 x.cs.length c3]) W6 HXR.out (HX.out.below HB6.out) HZ.out)
        rw [sameL_iff.2 rfl] at HS
        go_upto_region 8 with (go_at_call 19; refine HS.out.mono ?_; rintro e W8 ⟨rfl, hb⟩; have HB8 := Aside0.mk (below_step HB6.out hb); have HF8 := Aside0.mk (blk_below HF6.out hb); clear hb)
        clear HB6 HF6 HS HXR d0 d1 d2 d3 b0 b1 b2 b3
      all_goals
        have f8 := HF8.out
        have q0 : W8.cell? ⟨w.heap.size, 0, none⟩ = some (.int .i64 x.q) := (blk_cell f8 0).trans rfl
        have q1 : W8.cell? ⟨w.heap.size, 1, none⟩ = some (.slice A1 x.ls.length c1) := (blk_cell f8 1).trans rfl
        have q2 : W8.cell? ⟨w.heap.size, 2, none⟩ = some (.int .i64 x.k) := (blk_cell f8 2).trans rfl
        have q3 : W8.cell? ⟨w.heap.size, 3, none⟩ = some (.slice A3 x.cs.length c3) := (blk_cell f8 3).trans rfl
        clear f8
        have HS := Aside0.mk (split_calls_ x at_ _ W8 (HX.out.below HB8.out) HZ.out (HG.out.below HB8.out))
        by_cases hat : 0 ≤ at_ ∧ at_ ≤ (x.cs.length : Int)
        case' neg =>
          rw [split_none hat] at HS
          clear hat
          go_upto_region 9 with (go_at_call 27; refine HS.out.mono ?_; rintro e w9 ⟨P1, P1', P3, P3', Q1, Q1', Q3, Q3', rfl, hwa, hwb, _, _, hb⟩; have HWA := Aside0.mk hwa; have HWB := Aside0.mk hwb; have HB9 := Aside0.mk hb; clear hwa hwb hb)
          obtain ⟨FA, FBx, FL⟩ := two_boxes_ w9 (.cells #[.int .i64 0, .slice P1 0 P1', .int .i64 0, .slice P3 0 P3'] 38) (.cells #[.int .i64 0, .slice Q1 0 Q1', .int .i64 0, .slice Q3 0 Q3'] 38)
          generalize (w9.alloc (.cells #[.int .i64 0, .slice P1 0 P1', .int .i64 0, .slice P3 0 P3'] 38)).alloc (.cells #[.int .i64 0, .slice Q1 0 Q1', .int .i64 0, .slice Q3 0 Q3'] 38) = W13 at FA FBx FL ⊢
          have HB13 := Aside0.mk (below_step (below_step HB8.out HB9.out) FL)
          have HF13 := Aside0.mk (blk_below (blk_below HF8.out HB9.out) FL)
          clear FA FBx FL HB8 HF8 HB9 HWA HWB HS q0 q1 q2 q3
          generalize w9.heap.size = na
          go_upto_region 13 with (fail)
        case' pos =>
          obtain ⟨a, b, hs, hma, hmb, hza, hzb, hj⟩ := split_join HM.out HZ.out hat
          rw [hs] at HS
          have HJ0 := Aside0.mk hj
          have HMB0 := Aside0.mk hmb
          have HZA := Aside0.mk hza
          have HZB := Aside0.mk hzb
          clear hat hs hma hmb hza hzb hj
          go_upto_region 9 with (go_at_call 27; refine HS.out.mono ?_; rintro e w9 ⟨P1, P1', P3, P3', Q1, Q1', Q3, Q3', rfl, hwa, hwb, _, _, hb⟩; have HWA := Aside0.mk hwa; have HWB := Aside0.mk hwb; have HB9 := Aside0.mk hb; clear hwa hwb hb)
          obtain ⟨FA, FBx, FL⟩ := two_boxes_ w9 (.cells #[.int .i64 a.q, .slice P1 a.ls.length P1', .int .i64 a.k, .slice P3 a.cs.length P3'] 38) (.cells #[.int .i64 b.q, .slice Q1 b.ls.length Q1', .int .i64 b.k, .slice Q3 b.cs.length Q3'] 38)
          have HRA := Aside0.mk (HWA.out.rd.below FL)
          have HRB := Aside0.mk (HWB.out.rd.below FL)
          have HB10 := Aside0.mk (below_step (below_step HB8.out HB9.out) FL)
          have HF10 := Aside0.mk (blk_below (blk_below HF8.out HB9.out) FL)
          generalize (w9.alloc (.cells #[.int .i64 a.q, .slice P1 a.ls.length P1', .int .i64 a.k, .slice P3 a.cs.length P3'] 38)).alloc (.cells #[.int .i64 b.q, .slice Q1 b.ls.length Q1', .int .i64 b.k, .slice Q3 b.cs.length Q3'] 38) = W10 at FA FBx FL HRA HRB HB10 HF10 ⊢
          generalize w9.heap.size = na at FA FBx ⊢
          have a0 : W10.cell? ⟨na, 0, none⟩ = some (.int .i64 a.q) := (blk_cell FA 0).trans rfl
          have a1 : W10.cell? ⟨na, 1, none⟩ = some (.slice P1 a.ls.length P1') := (blk_cell FA 1).trans rfl
          have a2 : W10.cell? ⟨na, 2, none⟩ = some (.int .i64 a.k) := (blk_cell FA 2).trans rfl
          have a3 : W10.cell? ⟨na, 3, none⟩ = some (.slice P3 a.cs.length P3') := (blk_cell FA 3).trans rfl
          have b0 : W10.cell? ⟨na + 1, 0, none⟩ = some (.int .i64 b.q) := (blk_cell FBx 0).trans rfl
          have b1 : W10.cell? ⟨na + 1, 1, none⟩ = some (.slice Q1 b.ls.length Q1') := (blk_cell FBx 1).trans rfl
          have b2 : W10.cell? ⟨na + 1, 2, none⟩ = some (.int .i64 b.k) := (blk_cell FBx 2).trans rfl
          have b3 : W10.cell? ⟨na + 1, 3, none⟩ = some (.slice Q3 b.cs.length Q3') := (blk_cell FBx 3).trans rfl
          have HFN := Aside0.mk FBx
          clear FA FBx FL HB8 HF8 HB9 HWA HWB HS q0 q1 q2 q3
          have HJ := Aside0.mk (join_calls_ a b _ _ W10 HRA.out HRB.out HZA.out HZB.out (HG.out.below HB10.out))
          rw [HJ0.out] at HJ
          go_upto_region 11 with (go_at_call 30; refine HJ.out.mono ?_; rintro e w11 hbk; obtain ⟨C1, C1', C3, C3', rfl, hw, hb⟩ := hbk.low (w := w); dsimp only at hw; have HW11 := Aside0.mk hw; have HB11 := Aside0.mk hb; clear hw hb)
          have FC := heap_alloc_new w11 (.cells #[.int .i64 x.q, .slice C1 x.ls.length C1', .int .i64 x.k, .slice C3 x.cs.length C3'] 38)
          have FL := below_alloc (Below.refl w11.heap.size w11) (.cells #[.int .i64 x.q, .slice C1 x.ls.length C1', .int .i64 x.k, .slice C3 x.cs.length C3'] 38)
          have HXR := Aside0.mk (HW11.out.rd.below FL)
          have HRB2 := Aside0.mk ((HRB.out.below HB11.out).below FL)
          have HB12 := Aside0.mk (below_step (below_step HB10.out HB11.out) FL)
          have F12 := blk_below (blk_below HF10.out HB11.out) FL
          have FN := blk_below (blk_below HFN.out HB11.out) FL
          generalize w11.alloc (.cells #[.int .i64 x.q, .slice C1 x.ls.length C1', .int .i64 x.k, .slice C3 x.cs.length C3'] 38) = W12 at FC FL HXR HRB2 HB12 F12 FN ⊢
          generalize w11.heap.size = nc at FC ⊢
          have g0 : W12.cell? ⟨nc, 0, none⟩ = some (.int .i64 x.q) := (blk_cell FC 0).trans rfl
          have g1 : W12.cell? ⟨nc, 1, none⟩ = some (.slice C1 x.ls.length C1') := (blk_cell FC 1).trans rfl
          have g2 : W12.cell? ⟨nc, 2, none⟩ = some (.int .i64 x.k) := (blk_cell FC 2).trans rfl
          have g3 : W12.cell? ⟨nc, 3, none⟩ = some (.slice C3 x.cs.length C3') := (blk_cell FC 3).trans rfl
          have h0 : W12.cell? ⟨w.heap.size, 0, none⟩ = some (.int .i64 x.q) := (blk_cell F12 0).trans rfl
          have h1 : W12.cell? ⟨w.heap.size, 1, none⟩ = some (.slice A1 x.ls.length c1) := (blk_cell F12 1).trans rfl
          have h2 : W12.cell? ⟨w.heap.size, 2, none⟩ = some (.int .i64 x.k) := (blk_cell F12 2).trans rfl
          have h3 : W12.cell? ⟨w.heap.size, 3, none⟩ = some (.slice A3 x.cs.length c3) := (blk_cell F12 3).trans rfl
          have n0 : W12.cell? ⟨na + 1, 0, none⟩ = some (.int .i64 b.q) := (blk_cell FN 0).trans rfl
          have n1 : W12.cell? ⟨na + 1, 1, none⟩ = some (.slice Q1 b.ls.length Q1') := (blk_cell FN 1).trans rfl
          have n2 : W12.cell? ⟨na + 1, 2, none⟩ = some (.int .i64 b.k) := (blk_cell FN 2).trans rfl
          have n3 : W12.cell? ⟨na + 1, 3, none⟩ = some (.slice Q3 b.cs.length Q3') := (blk_cell FN 3).trans rfl
          have HF12 := Aside0.mk F12
          have HFN2 := Aside0.mk FN
          clear F12 FN FC FL HB10 HB11 HF10 HW11 HJ HFN HRA HRB HJ0 a0 a1 a2 a3 b0 b1 b2 b3
          have HS := Aside0.mk (same_calls_ x x _ (.agg #[.int .i64 x.q, .slice A1 x.ls.length c1, .int .i64 x.k, .slice A3 x.cs.length c3]) W12 HXR.out (HX.out.below HB12.out) HZ.out)
          rw [sameL_iff.2 rfl] at HS
          have HMB := Aside0.mk (fun W (hW : Below W12.heap.size W12 W) => may_calls_ b _ W (HRB2.out.below hW) HZB.out (HG.out.below (below_step HB12.out hW)))
          rw [HMB0.out] at HMB
          go_upto_region 13 with (first | (go_at_call 19; refine HS.out.mono ?_; rintro e w12 ⟨rfl, hb⟩; have HBS := Aside0.mk hb; have fb := blk_below HFN2.out hb; have u0 : w12.cell? ⟨na + 1, 0, none⟩ = some (.int .i64 b.q) := (blk_cell fb 0).trans rfl; have u1 : w12.cell? ⟨na + 1, 1, none⟩ = some (.slice Q1 b.ls.length Q1') := (blk_cell fb 1).trans rfl; have u2 : w12.cell? ⟨na + 1, 2, none⟩ = some (.int .i64 b.k) := (blk_cell fb 2).trans rfl; have u3 : w12.cell? ⟨na + 1, 3, none⟩ = some (.slice Q3 b.cs.length Q3') := (blk_cell fb 3).trans rfl; clear hb fb) | (go_at_call 37; refine (HMB.out _ HBS.out).mono ?_; rintro e W13 ⟨rfl, hb⟩; have HB13 := Aside0.mk (below_step (below_step HB12.out HBS.out) hb); have HF13 := Aside0.mk (blk_below (blk_below HF12.out HBS.out) hb); clear hb))
          clear HB12 HF12 HFN2 HS HMB HXR HRB2 HBS HMB0 HZA HZB g0 g1 g2 g3 h0 h1 h2 h3 n0 n1 n2 n3 u0 u1 u2 u3
        all_goals
          have f13 := HF13.out
          have z0 : W13.cell? ⟨w.heap.size, 0, none⟩ = some (.int .i64 x.q) := (blk_cell f13 0).trans rfl
          have z1 : W13.cell? ⟨w.heap.size, 1, none⟩ = some (.slice A1 x.ls.length c1) := (blk_cell f13 1).trans rfl
          have z2 : W13.cell? ⟨w.heap.size, 2, none⟩ = some (.int .i64 x.k) := (blk_cell f13 2).trans rfl
          have z3 : W13.cell? ⟨w.heap.size, 3, none⟩ = some (.slice A3 x.cs.length c3) := (blk_cell f13 3).trans rfl
          clear f13
          have hp := (mayL_parts HM.out).1
          obtain ⟨N, hN⟩ : ∃ N, fuelL x = N := ⟨_, rfl⟩
          obtain ⟨M, hM⟩ : ∃ M : Nat, (x.ls.length : Int) + x.q = (M : Int) := ⟨x.ls.length + x.q.toNat, by omega⟩
          by_cases hk : 0 < x.k
          case' pos =>
            have hNM : N = M + 1 := by unfold fuelL at hN; rw [if_pos hk] at hN; omega
            have w0 : IntKind.i64.wrap ((x.ls.length : Int) + x.q) = (M : Int) := by rw [i64_w, hM]; unfold wrap64; omega
            have w00 : IntKind.i64.wrap ((M : Int) + 1) = (N : Int) := by rw [i64_w]; unfold wrap64; omega
            have e1 : decide (0 < x.k) = true := decide_eq_true hk
            have HN := Aside0.mk hN
            clear hN hM hk hNM hp
            go_wp2
          case' neg =>
            have hNM : N = M := by unfold fuelL at hN; rw [if_neg hk] at hN; omega
            have w0 : IntKind.i64.wrap ((x.ls.length : Int) + x.q) = (N : Int) := by rw [i64_w, hM]; unfold wrap64; omega
            have w00 := w0
            have e1 : decide (0 < x.k) = false := decide_eq_false hk
            have HN := Aside0.mk hN
            clear hN hM hk hNM hp
            go_wp2
          all_goals
            clear w0 w00 e1
            have F3 := heap_alloc_new W13 (.cells #[.int .i64 x.q, .slice A1 x.ls.length c1, .int .i64 x.k, .slice A3 x.cs.length c3] 38)
            have FL := below_alloc (Below.refl W13.heap.size W13) (.cells #[.int .i64 x.q, .slice A1 x.ls.length c1, .int .i64 x.k, .slice A3 x.cs.length c3] 38)
            have hne0 : w.heap.size ≠ W13.heap.size := Nat.ne_of_lt (blk_lt HF13.out)
            generalize hW3 : W13.alloc (.cells #[.int .i64 x.q, .slice A1 x.ls.length c1, .int .i64 x.k, .slice A3 x.cs.length c3] 38) = W3 at F3 FL ⊢
            clear hW3
            have HB3 := Aside0.mk (below_step HB13.out FL)
            have HF3 := Aside0.mk (blk_below HF13.out FL)
            have HM3 := Aside0.mk (show MBox W3 W13.heap.size x from ⟨A1, c1, A3, c3, F3, HX.out.below HB3.out⟩)
            have hbm : w.heap.size ≤ W13.heap.size := Nat.le_of_lt (blk_lt HF13.out)
            generalize W13.heap.size = bm at hne0 hbm HM3 ⊢
            clear F3 FL HB13 HF13 z0 z1 z2 z3
            go_loopg [16] N (fun g v16 w' => ∃ (i : Nat) (m : Ln), v16 = .int .i64 (i : Int) ∧ i + g = N ∧ Aside0 (MBox w' bm m) ∧ Aside0 (mayL m = true ∧ m.cs = x.cs ∧ fuelL m = g) ∧ Aside0 (w'.heap[w.heap.size]? = some (.cells #[.int .i64 x.q, .slice A1 x.ls.length c1, .int .i64 x.k, .slice A3 x.cs.length c3] 38 (0, 0))) ∧ Aside0 (Below w.heap.size w w'))
            case atStart => exact ⟨0, x, rfl, by omega, HM3, ⟨HM.out, rfl, HN.out⟩, HF3, HB3⟩
            case round =>
              clear HM3 HF3 HB3
              obtain ⟨i, m, rfl, hig, HMB, HMM, HF, HB⟩ := hrel
              cases gk with
              | succ r =>
                have e1 : decide ((i : Int) < (N : Int)) = true := decide_eq_true (by omega)
                have w1' : IntKind.i64.wrap ((i : Int) + 1) = ((i + 1 : Nat) : Int) := by rw [i64_w]; unfold wrap64; have := (mayL_parts HM.out).1; have := HN.out; unfold fuelL at this; split at this <;> omega
                obtain ⟨y, hy, hy1, hy2, hy3⟩ := free_some HMM.out.1 HMM.out.2.2
                have hszm := Sz_of HZ.out HMM.out.1 HMM.out.2.1
                obtain ⟨E1, f1, E3, f3, hbx, hrd⟩ := HMB.out
                have HI := Aside0.mk (free_calls_ m _ wr hrd hszm (HG.out.below HB.out))
                rw [hy] at HI
                have HMM2 := Aside0.mk (show mayL y = true ∧ y.cs = x.cs ∧ fuelL y = r from ⟨hy1, hy2.trans HMM.out.2.1, hy3⟩)
                have m0 : wr.cell? ⟨bm, 0, none⟩ = some (.int .i64 m.q) := (blk_cell hbx 0).trans rfl
                have me0 : wr.frozen? ⟨bm, 0, none⟩ = false := blk_frozen hbx 0
                have m1 : wr.cell? ⟨bm, 1, none⟩ = some (.slice E1 m.ls.length f1) := (blk_cell hbx 1).trans rfl
                have me1 : wr.frozen? ⟨bm, 1, none⟩ = false := blk_frozen hbx 1
                have m2 : wr.cell? ⟨bm, 2, none⟩ = some (.int .i64 m.k) := (blk_cell hbx 2).trans rfl
                have me2 : wr.frozen? ⟨bm, 2, none⟩ = false := blk_frozen hbx 2
                have m3 : wr.cell? ⟨bm, 3, none⟩ = some (.slice E3 m.cs.length f3) := (blk_cell hbx 3).trans rfl
                have me3 : wr.frozen? ⟨bm, 3, none⟩ = false := blk_frozen hbx 3
                have HBX := Aside0.mk hbx
                clear hbx hrd HMB hszm hy hy1 hy2 hy3 HMM
                go_wp2_with (go_at_call 50; refine HI.out.mono ?_; rintro e w4 hbk; obtain ⟨G1, g1, G3, g3, rfl, hw, hb⟩ := hbk.low (w := w); dsimp only at hw; have HW := Aside0.mk hw; have HB4 := Aside0.mk hb; have fb := blk_below HBX.out hb; have n0 : ∀ o', (w4.alloc o').cell? ⟨bm, 0, none⟩ = some (.int .i64 m.q) := fun o' => (blk_cell (blk_alloc fb o') 0).trans rfl; have ne0 : ∀ o', (w4.alloc o').frozen? ⟨bm, 0, none⟩ = false := fun o' => blk_frozen (blk_alloc fb o') 0; have n1 : ∀ o', (w4.alloc o').cell? ⟨bm, 1, none⟩ = some (.slice E1 m.ls.length f1) := fun o' => (blk_cell (blk_alloc fb o') 1).trans rfl; have ne1 : ∀ o', (w4.alloc o').frozen? ⟨bm, 1, none⟩ = false := fun o' => blk_frozen (blk_alloc fb o') 1; have n2 : ∀ o', (w4.alloc o').cell? ⟨bm, 2, none⟩ = some (.int .i64 m.k) := fun o' => (blk_cell (blk_alloc fb o') 2).trans rfl; have ne2 : ∀ o', (w4.alloc o').frozen? ⟨bm, 2, none⟩ = false := fun o' => blk_frozen (blk_alloc fb o') 2; have n3 : ∀ o', (w4.alloc o').cell? ⟨bm, 3, none⟩ = some (.slice E3 m.cs.length f3) := fun o' => (blk_cell (blk_alloc fb o') 3).trans rfl; have ne3 : ∀ o', (w4.alloc o').frozen? ⟨bm, 3, none⟩ = false := fun o' => blk_frozen (blk_alloc fb o') 3; have FBX := Aside0.mk fb; clear hw hb fb)
                go_roundg r
                case measure => omega
                case rel => exact ⟨i + 1, y, by first | rfl | (simp; done), by omega, ⟨⟨G1, g1, G3, g3, put4_blk (blk_alloc FBX.out _), (put4_WrL (HW.out.below (below_alloc (Below.refl _ _) _)) (blk_alloc FBX.out _)).rd⟩⟩, HMM2, ⟨put4_off (blk_alloc (blk_below HF.out HB4.out) _) hne0⟩, ⟨put4_below (below_alloc (below_step HB.out HB4.out) _) hbm⟩⟩
              | zero =>
                obtain rfl : i = N := by omega
                have e1 : decide ((i : Int) < (i : Int)) = false := decide_eq_false (by omega)
                have hszm := Sz_of HZ.out HMM.out.1 HMM.out.2.1
                obtain ⟨hfr, hq, hl, hkk⟩ := free_none HMM.out.1 HMM.out.2.2
                obtain ⟨E1, f1, E3, f3, hbx, hrd⟩ := HMB.out
                have HI := Aside0.mk (free_calls_ m _ wr hrd hszm (HG.out.below HB.out))
                rw [hfr, show zeroLn = (⟨0, [], 0, []⟩ : Ln) from rfl] at HI
                have HRD := Aside0.mk hrd
                rw [hq, hl, hkk] at hbx HI
                have HZM := Aside0.mk hszm
                clear hrd hszm hfr hq hl hkk
                have m0 : wr.cell? ⟨bm, 0, none⟩ = some (.int .i64 0) := (blk_cell hbx 0).trans rfl
                have me0 : wr.frozen? ⟨bm, 0, none⟩ = false := blk_frozen hbx 0
                have m1 : wr.cell? ⟨bm, 1, none⟩ = some (.slice E1 0 f1) := (blk_cell hbx 1).trans rfl
                have me1 : wr.frozen? ⟨bm, 1, none⟩ = false := blk_frozen hbx 1
                have m2 : wr.cell? ⟨bm, 2, none⟩ = some (.int .i64 0) := (blk_cell hbx 2).trans rfl
                have me2 : wr.frozen? ⟨bm, 2, none⟩ = false := blk_frozen hbx 2
                have m3 : wr.cell? ⟨bm, 3, none⟩ = some (.slice E3 m.cs.length f3) := (blk_cell hbx 3).trans rfl
                have me3 : wr.frozen? ⟨bm, 3, none⟩ = false := blk_frozen hbx 3
                have HBX := Aside0.mk hbx
                clear hbx
                go_upto_region 25 with (go_at_call 50; refine HI.out.mono ?_; rintro e w4 hbk; obtain ⟨G1, g1, G3, g3, rfl, hw, hb⟩ := hbk.low (w := w); dsimp only at hw; have HB4 := Aside0.mk hb; clear hw hb)
                have FL := below_alloc (Below.refl w4.heap.size w4) (.cells #[.int .i64 0, .slice G1 0 g1, .int .i64 0, .slice G3 0 g3] 38)
                generalize hW5 : w4.alloc (.cells #[.int .i64 0, .slice G1 0 g1, .int .i64 0, .slice G3 0 g3] 38) = W5 at FL ⊢
                have HRD5 := Aside0.mk ((HRD.out.below HB4.out).below FL)
                have fm := blk_below (blk_below HBX.out HB4.out) FL
                have fl := blk_below (blk_below HF.out HB4.out) FL
                have HB5 := Aside0.mk (below_step (below_step HB.out HB4.out) FL)
                clear hW5 FL HB4 HMB HF HB HI HBX m0 me0 m1 me1 m2 me2 m3 me3 e1 HRD
                generalize w4.heap.size = bx
                have n0 : W5.cell? ⟨bm, 0, none⟩ = some (.int .i64 0) := (blk_cell fm 0).trans rfl
                have n1 : W5.cell? ⟨bm, 1, none⟩ = some (.slice E1 0 f1) := (blk_cell fm 1).trans rfl
                have n2 : W5.cell? ⟨bm, 2, none⟩ = some (.int .i64 0) := (blk_cell fm 2).trans rfl
                have n3 : W5.cell? ⟨bm, 3, none⟩ = some (.slice E3 m.cs.length f3) := (blk_cell fm 3).trans rfl
                have l0 : W5.cell? ⟨w.heap.size, 0, none⟩ = some (.int .i64 x.q) := (blk_cell fl 0).trans rfl
                have l1 : W5.cell? ⟨w.heap.size, 1, none⟩ = some (.slice A1 x.ls.length c1) := (blk_cell fl 1).trans rfl
                have l2 : W5.cell? ⟨w.heap.size, 2, none⟩ = some (.int .i64 x.k) := (blk_cell fl 2).trans rfl
                have l3 : W5.cell? ⟨w.heap.size, 3, none⟩ = some (.slice A3 x.cs.length c3) := (blk_cell fl 3).trans rfl
                clear fm fl
                have HSC := Aside0.mk (same05_calls_ m.cs x.cs (.slice E3 m.cs.length f3) (.slice A3 x.cs.length c3) W5 (by obtain ⟨_, _, e, _, h⟩ := HRD5.out; injection e with e; injection e with e; injection e with _ e; injection e with _ e; injection e with _ e; injection e with e _; rw [e]; exact h) (by obtain ⟨_, _, e, _, h⟩ := HX.out.below HB5.out; injection e with e; injection e with e; injection e with _ e; injection e with _ e; injection e with _ e; injection e with e _; rw [e]; exact h) (by have := HZM.out.2.1; omega))
                rw [show sameC m.cs x.cs = true from sameC_iff.2 HMM.out.2.1] at HSC
                go_wp2_with (first | (go_at_call 36; refine HSC.out.mono ?_; rintro e w6 ⟨rfl, ⟨n6, rfl⟩⟩) | (go_at_call 25; refine (HAW.out _ (pw_below_drewN HB5.out _)).mono ?_; rintro e wz ⟨rfl, hb⟩; have HBZ := Aside0.mk hb; clear hb))
                go_ret
                exact ⟨rfl, below_step (pw_below_drewN HB5.out _) HBZ.out⟩
end Go.Proofs.YtgdpknmffohhaaaDoor.Pl
