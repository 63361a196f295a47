/- LinesIndents, walked. -/
import Derived.Test.YtgdpknmffohhaaaDoorLinePure
import Derived.Test.YtgdpknmffohhaaaDoorLineAwake
namespace Go.Proofs.YtgdpknmffohhaaaDoor.Pl
open Go.RowKit Go.Lib Go.Proofs.YtgdpknmffohhaaaDoorW.PrintWords Go.Proofs.YtgdpknmffohhaaaDoorW.PrintLast Go.Proofs.YtgdpknmffohhaaaDoorW.PrintMore
set_option linter.unusedVariables false
set_option maxRecDepth 100000 in
set_option maxHeartbeats 20000000 in
theorem LinesIndents_calls_ (x : Ln) (v : Value) (w : World) (hx : RdL w v x) (hok : ∀ c ∈ x.cs, c.f2.size ≤ 140737488355328) (hG : Gl_ w) :
    Calls Tryd.prog 7 #[v] w fun e w' => e = .returned (.bool true) ∧ Below w.heap.size w w' := by
  have hu38 := Tryd.underlying38
  have HLG := Aside0.mk (fun W (hW : Below w.heap.size w W) => long06_calls_ x v W (hx.below hW) hok)
  obtain ⟨_, _, rfl, ⟨A1, c1, rfl, h1, hc1⟩, ⟨A3, c3, rfl, h3, hc3⟩⟩ := hx
  have HX := Aside0.mk (show RdL w (.agg #[.int .i64 x.q, .slice A1 x.ls.length c1, .int .i64 x.k, .slice A3 x.cs.length c3]) x from ⟨_, _, rfl, ⟨A1, c1, rfl, h1, hc1⟩, ⟨A3, c3, rfl, h3, hc3⟩⟩)
  have HAW := Aside0.mk (fun W (hW : Below w.heap.size w W) => awake06_calls_ W (hG.below hW))
  have HG := Aside0.mk hG
  have F0 := heap_alloc_new w (.cells #[.int .i64 x.q, .slice A1 x.ls.length c1, .int .i64 x.k, .slice A3 x.cs.length c3] 38)
  have FB := below_alloc (Below.refl w.heap.size w) (.cells #[.int .i64 x.q, .slice A1 x.ls.length c1, .int .i64 x.k, .slice A3 x.cs.length c3] 38)
  clear h1 h3 hc1 hc3 hok hG
  go_enter Tryd.func7, Tryd.ntmps7
  go_upto_region 1 with (fail)
  generalize w.alloc (.cells #[.int .i64 x.q, .slice A1 x.ls.length c1, .int .i64 x.k, .slice A3 x.cs.length c3] 38) = W0 at F0 FB ⊢
  have p0 : W0.cell? ⟨w.heap.size, 0, none⟩ = some (.int .i64 x.q) := (blk_cell F0 0).trans rfl
  have p1 : W0.cell? ⟨w.heap.size, 1, none⟩ = some (.slice A1 x.ls.length c1) := (blk_cell F0 1).trans rfl
  have p2 : W0.cell? ⟨w.heap.size, 2, none⟩ = some (.int .i64 x.k) := (blk_cell F0 2).trans rfl
  have p3 : W0.cell? ⟨w.heap.size, 3, none⟩ = some (.slice A3 x.cs.length c3) := (blk_cell F0 3).trans rfl
  have HF0 := Aside0.mk F0
  have HFB := Aside0.mk FB
  clear F0 FB
  cases hlg : longL x with
  | true =>
    rw [hlg] at HLG
    go_wp2_with (first | (go_at_call 24; refine (HLG.out _ HFB.out).mono ?_; rintro e w1 ⟨rfl, hb⟩; have HB1 := Aside0.mk hb; have fb := blk_below HF0.out hb; have r0 : w1.cell? ⟨w.heap.size, 0, none⟩ = some (.int .i64 x.q) := (blk_cell fb 0).trans rfl; have r1 : w1.cell? ⟨w.heap.size, 1, none⟩ = some (.slice A1 x.ls.length c1) := (blk_cell fb 1).trans rfl; have r2 : w1.cell? ⟨w.heap.size, 2, none⟩ = some (.int .i64 x.k) := (blk_cell fb 2).trans rfl; have r3 : w1.cell? ⟨w.heap.size, 3, none⟩ = some (.slice A3 x.cs.length c3) := (blk_cell fb 3).trans rfl; have HF1 := Aside0.mk fb; clear hb fb) | (go_at_call 25; refine (HAW.out _ (below_step HFB.out HB1.out)).mono ?_; rintro e wz ⟨rfl, hb⟩; have HBZ := Aside0.mk hb; clear hb))
    go_ret
    exact ⟨rfl, below_step (below_step HFB.out HB1.out) HBZ.out⟩
  | false =>
    rw [hlg] at HLG
    have hz := longL_Sz hlg
    have HMY := Aside0.mk (fun W (hW : Below w.heap.size w W) => may_calls_ x _ W (HX.out.below hW) hz (HG.out.below hW))
    have HZ := Aside0.mk hz
    clear hz hlg
    cases hm : mayL x with
    | false =>
      rw [hm] at HMY
      go_wp2_with (first | (go_at_call 24; refine (HLG.out _ HFB.out).mono ?_; rintro e w1 ⟨rfl, hb⟩; have HB1 := Aside0.mk hb; have fb := blk_below HF0.out hb; have r0 : w1.cell? ⟨w.heap.size, 0, none⟩ = some (.int .i64 x.q) := (blk_cell fb 0).trans rfl; have r1 : w1.cell? ⟨w.heap.size, 1, none⟩ = some (.slice A1 x.ls.length c1) := (blk_cell fb 1).trans rfl; have r2 : w1.cell? ⟨w.heap.size, 2, none⟩ = some (.int .i64 x.k) := (blk_cell fb 2).trans rfl; have r3 : w1.cell? ⟨w.heap.size, 3, none⟩ = some (.slice A3 x.cs.length c3) := (blk_cell fb 3).trans rfl; have HF1 := Aside0.mk fb; clear hb fb) | (go_at_call 37; refine (HMY.out _ (below_step HFB.out HB1.out)).mono ?_; rintro e w2 ⟨rfl, hb⟩; have HB2 := Aside0.mk hb; have fb := blk_below HF1.out hb; have t0 : w2.cell? ⟨w.heap.size, 0, none⟩ = some (.int .i64 x.q) := (blk_cell fb 0).trans rfl; have t1 : w2.cell? ⟨w.heap.size, 1, none⟩ = some (.slice A1 x.ls.length c1) := (blk_cell fb 1).trans rfl; have t2 : w2.cell? ⟨w.heap.size, 2, none⟩ = some (.int .i64 x.k) := (blk_cell fb 2).trans rfl; have t3 : w2.cell? ⟨w.heap.size, 3, none⟩ = some (.slice A3 x.cs.length c3) := (blk_cell fb 3).trans rfl; have HF2 := Aside0.mk fb; clear hb fb) | (go_at_call 25; refine (HAW.out _ (below_step (below_step HFB.out HB1.out) HB2.out)).mono ?_; rintro e wz ⟨rfl, hb⟩; have HBZ := Aside0.mk hb; clear hb))
      go_ret
      exact ⟨rfl, below_step (below_step (below_step HFB.out HB1.out) HB2.out) HBZ.out⟩
    | true =>
      rw [hm] at HMY
      obtain ⟨hn0, hn6⟩ := nOf_range hm
      obtain ⟨N, hN⟩ := Int.eq_ofNat_of_zero_le hn0
      have hmp := (mayL_parts hm).1
      have HM := Aside0.mk hm
      go_upto_region 3 with (first | (go_at_call 24; refine (HLG.out _ HFB.out).mono ?_; rintro e w1 ⟨rfl, hb⟩; have HB1 := Aside0.mk hb; have fb := blk_below HF0.out hb; have r0 : w1.cell? ⟨w.heap.size, 0, none⟩ = some (.int .i64 x.q) := (blk_cell fb 0).trans rfl; have r1 : w1.cell? ⟨w.heap.size, 1, none⟩ = some (.slice A1 x.ls.length c1) := (blk_cell fb 1).trans rfl; have r2 : w1.cell? ⟨w.heap.size, 2, none⟩ = some (.int .i64 x.k) := (blk_cell fb 2).trans rfl; have r3 : w1.cell? ⟨w.heap.size, 3, none⟩ = some (.slice A3 x.cs.length c3) := (blk_cell fb 3).trans rfl; have HF1 := Aside0.mk fb; clear hb fb) | (go_at_call 37; refine (HMY.out _ (below_step HFB.out HB1.out)).mono ?_; rintro e w2 ⟨rfl, hb⟩; have HB2 := Aside0.mk hb; have fb := blk_below HF1.out hb; have t0 : w2.cell? ⟨w.heap.size, 0, none⟩ = some (.int .i64 x.q) := (blk_cell fb 0).trans rfl; have t1 : w2.cell? ⟨w.heap.size, 1, none⟩ = some (.slice A1 x.ls.length c1) := (blk_cell fb 1).trans rfl; have t2 : w2.cell? ⟨w.heap.size, 2, none⟩ = some (.int .i64 x.k) := (blk_cell fb 2).trans rfl; have t3 : w2.cell? ⟨w.heap.size, 3, none⟩ = some (.slice A3 x.cs.length c3) := (blk_cell fb 3).trans rfl; have HF2 := Aside0.mk fb; clear hb fb))
      have w0 : IntKind.i64.wrap (6 - x.q) = 6 - x.q := by rw [i64_w]; unfold wrap64; omega
      by_cases h0 : x.ls = []
      case' pos =>
        have hw : 6 - x.q = (N : Int) := by rw [← hN]; unfold nOf; rw [if_pos h0]
        replace w0 := w0.trans hw
        have hl0 : decide (0 < x.ls.length) = false := by rw [h0]; rfl
        have HN := Aside0.mk hN
        clear h0 hw hmp hn0 hn6 hN hm
        go_wp2
      case' neg =>
        have hw : IntKind.i64.wrap (6 - (x.ls.length : Int)) = (N : Int) := by rw [← hN]; unfold nOf; rw [if_neg h0, i64_w]; unfold wrap64; omega
        have hl0 : decide (0 < x.ls.length) = true := decide_eq_true (List.length_pos_iff.2 h0)
        have HN := Aside0.mk hN
        clear h0 hmp hn0 hn6 hN hm
        go_wp2
      all_goals
        clear w0 hl0
        have F3 := heap_alloc_new w2 (.cells #[.int .i64 x.q, .slice A1 x.ls.length c1, .int .i64 x.k, .slice A3 x.cs.length c3] 38)
        have FL := below_alloc (Below.refl w2.heap.size w2) (.cells #[.int .i64 x.q, .slice A1 x.ls.length c1, .int .i64 x.k, .slice A3 x.cs.length c3] 38)
        have hne0 : w.heap.size ≠ w2.heap.size := Nat.ne_of_lt (blk_lt HF2.out)
        generalize hW3 : w2.alloc (.cells #[.int .i64 x.q, .slice A1 x.ls.length c1, .int .i64 x.k, .slice A3 x.cs.length c3] 38) = W3 at F3 FL ⊢
        clear hW3
        have HB3 := Aside0.mk (below_step (below_step (below_step HFB.out HB1.out) HB2.out) FL)
        have HF3 := Aside0.mk (blk_below HF2.out FL)
        have HM3 := Aside0.mk (show MBox W3 w2.heap.size (indN x 0) by rw [indN_zero]; exact ⟨A1, c1, A3, c3, F3, HX.out.below HB3.out⟩)
        have hbm : w.heap.size ≤ w2.heap.size := Nat.le_of_lt (blk_lt HF2.out)
        generalize w2.heap.size = bm at hne0 hbm HM3 ⊢
        have hN6 : N ≤ 6 := by have := nOf_range HM.out; have := HN.out; omega
        clear F3 FL HB1 HB2 HF0 HF1 HF2 HFB HLG HMY p0 p1 p2 p3 r0 r1 r2 r3 t0 t1 t2 t3
        go_loopg [5] N (fun g v5 w' => ∃ (i : Nat), v5 = .int .i64 (i : Int) ∧ i + g = N ∧ Aside0 (MBox w' bm (indN x i)) ∧ Aside0 (w'.heap[w.heap.size]? = some (.cells #[.int .i64 x.q, .slice A1 x.ls.length c1, .int .i64 x.k, .slice A3 x.cs.length c3] 38 (0, 0))) ∧ Aside0 (Below w.heap.size w w'))
        case atStart => exact ⟨0, rfl, by omega, HM3, HF3, HB3⟩
        case round =>
          clear HM3 HF3 HB3
          obtain ⟨i, rfl, hig, HMB, HF, HB⟩ := hrel
          by_cases hlt : i < N
          · have e1 : decide ((i : Int) < (N : Int)) = true := decide_eq_true (by omega)
            have w1' : IntKind.i64.wrap ((i : Int) + 1) = ((i + 1 : Nat) : Int) := by rw [i64_w]; unfold wrap64; omega
            obtain ⟨g', rfl⟩ : ∃ g', gk = g' + 1 := ⟨gk - 1, by omega⟩
            have hmi := may_indN HM.out i (by have := HN.out; omega)
            have HST := ind_step HM.out i (by have := HN.out; omega)
            have hszi := Sz_of HZ.out hmi (indN_cs x i)
            obtain ⟨y, hy⟩ : ∃ y, indN x i = y := ⟨_, rfl⟩
            obtain ⟨z, hz⟩ : ∃ z, indN x (i + 1) = z := ⟨_, rfl⟩
            have HZ1 := Aside0.mk hz
            rw [hy] at HMB HST hszi
            rw [hz] at HST
            clear hy hz
            obtain ⟨E1, f1, E3, f3, hbx, hrd⟩ := HMB.out
            have HI := Aside0.mk (indent_calls_ y _ wr hrd hszi (HG.out.below HB.out))
            rw [HST] at HI
            have m0 : wr.cell? ⟨bm, 0, none⟩ = some (.int .i64 y.q) := (blk_cell hbx 0).trans rfl
            have me0 : wr.frozen? ⟨bm, 0, none⟩ = false := blk_frozen hbx 0
            have m1 : wr.cell? ⟨bm, 1, none⟩ = some (.slice E1 y.ls.length f1) := (blk_cell hbx 1).trans rfl
            have me1 : wr.frozen? ⟨bm, 1, none⟩ = false := blk_frozen hbx 1
            have m2 : wr.cell? ⟨bm, 2, none⟩ = some (.int .i64 y.k) := (blk_cell hbx 2).trans rfl
            have me2 : wr.frozen? ⟨bm, 2, none⟩ = false := blk_frozen hbx 2
            have m3 : wr.cell? ⟨bm, 3, none⟩ = some (.slice E3 y.cs.length f3) := (blk_cell hbx 3).trans rfl
            have me3 : wr.frozen? ⟨bm, 3, none⟩ = false := blk_frozen hbx 3
            have HBX := Aside0.mk hbx
            clear hbx hrd HST HMB hmi hszi
            go_wp2_with (go_at_call 42; refine HI.out.mono ?_; rintro e w4 hbk; obtain ⟨G1, g1, G3, g3, rfl, hw, hb⟩ := hbk.low (w := w); dsimp only at hw; have HW := Aside0.mk hw; have HB4 := Aside0.mk hb; have fb := blk_below HBX.out hb; have n0 : ∀ o', (w4.alloc o').cell? ⟨bm, 0, none⟩ = some (.int .i64 y.q) := fun o' => (blk_cell (blk_alloc fb o') 0).trans rfl; have ne0 : ∀ o', (w4.alloc o').frozen? ⟨bm, 0, none⟩ = false := fun o' => blk_frozen (blk_alloc fb o') 0; have n1 : ∀ o', (w4.alloc o').cell? ⟨bm, 1, none⟩ = some (.slice E1 y.ls.length f1) := fun o' => (blk_cell (blk_alloc fb o') 1).trans rfl; have ne1 : ∀ o', (w4.alloc o').frozen? ⟨bm, 1, none⟩ = false := fun o' => blk_frozen (blk_alloc fb o') 1; have n2 : ∀ o', (w4.alloc o').cell? ⟨bm, 2, none⟩ = some (.int .i64 y.k) := fun o' => (blk_cell (blk_alloc fb o') 2).trans rfl; have ne2 : ∀ o', (w4.alloc o').frozen? ⟨bm, 2, none⟩ = false := fun o' => blk_frozen (blk_alloc fb o') 2; have n3 : ∀ o', (w4.alloc o').cell? ⟨bm, 3, none⟩ = some (.slice E3 y.cs.length f3) := fun o' => (blk_cell (blk_alloc fb o') 3).trans rfl; have ne3 : ∀ o', (w4.alloc o').frozen? ⟨bm, 3, none⟩ = false := fun o' => blk_frozen (blk_alloc fb o') 3; have FBX := Aside0.mk fb; clear hw hb fb)
            go_roundg g'
            case measure => omega
            case rel => exact ⟨i + 1, by first | rfl | (simp; done), by omega, ⟨by rw [HZ1.out]; exact ⟨G1, g1, G3, g3, put4_blk (blk_alloc FBX.out _), (put4_WrL (HW.out.below (below_alloc (Below.refl _ _) _)) (blk_alloc FBX.out _)).rd⟩⟩, ⟨put4_off (blk_alloc (blk_below HF.out HB4.out) _) hne0⟩, ⟨put4_below (below_alloc (below_step HB.out HB4.out) _) hbm⟩⟩
          · obtain rfl : i = N := by omega
            have e1 : decide ((i : Int) < (i : Int)) = false := decide_eq_false (by omega)
            have hmi := may_indN HM.out i (by have := HN.out; omega)
            have HST := ind_off HM.out i (HN.out.symm)
            have hszi := Sz_of HZ.out hmi (indN_cs x i)
            obtain ⟨E1, f1, E3, f3, hbx, hrd⟩ := HMB.out
            have HI := Aside0.mk (indent_calls_ (indN x i) _ wr hrd hszi (HG.out.below HB.out))
            rw [HST, show zeroLn = (⟨0, [], 0, []⟩ : Ln) from rfl] at HI
            obtain ⟨y, hy⟩ : ∃ y, indN x i = y := ⟨_, rfl⟩
            have HY := Aside0.mk hy
            rw [hy] at hbx HI HMB
            clear hrd HST hmi hszi
            clear hy
            have m0 : wr.cell? ⟨bm, 0, none⟩ = some (.int .i64 y.q) := (blk_cell hbx 0).trans rfl
            have me0 : wr.frozen? ⟨bm, 0, none⟩ = false := blk_frozen hbx 0
            have m1 : wr.cell? ⟨bm, 1, none⟩ = some (.slice E1 y.ls.length f1) := (blk_cell hbx 1).trans rfl
            have me1 : wr.frozen? ⟨bm, 1, none⟩ = false := blk_frozen hbx 1
            have m2 : wr.cell? ⟨bm, 2, none⟩ = some (.int .i64 y.k) := (blk_cell hbx 2).trans rfl
            have me2 : wr.frozen? ⟨bm, 2, none⟩ = false := blk_frozen hbx 2
            have m3 : wr.cell? ⟨bm, 3, none⟩ = some (.slice E3 y.cs.length f3) := (blk_cell hbx 3).trans rfl
            have me3 : wr.frozen? ⟨bm, 3, none⟩ = false := blk_frozen hbx 3
            have HBX := Aside0.mk hbx
            clear hbx
            go_wp2_with (go_at_call 42; refine HI.out.mono ?_; rintro e w4 hbk; obtain ⟨G1, g1, G3, g3, rfl, hw, hb⟩ := hbk.low (w := w); dsimp only at hw; have HB4 := Aside0.mk hb; clear hw hb)
            have FL := below_alloc (Below.refl w4.heap.size w4) (.cells #[.int .i64 0, .slice G1 0 g1, .int .i64 0, .slice G3 0 g3] 38)
            generalize hW5 : w4.alloc (.cells #[.int .i64 0, .slice G1 0 g1, .int .i64 0, .slice G3 0 g3] 38) = W5 at FL ⊢
            have HM5 := Aside0.mk ((HMB.out.below HB4.out).below FL)
            have HF5 := Aside0.mk (blk_below (blk_below HF.out HB4.out) FL)
            have HB5 := Aside0.mk (below_step (below_step HB.out HB4.out) FL)
            clear hW5 FL HB4 HMB HF HB HI HBX m0 me0 m1 me1 m2 me2 m3 me3 e1
            rw [← HY.out] at HM5
            clear HY
            generalize w4.heap.size = bx
            go_loopg [10] i (fun g v10 w' => ∃ (j : Nat), v10 = .int .i64 (j : Int) ∧ j + g = i ∧ Aside0 (MBox w' bm (indN x g)) ∧ Aside0 (w'.heap[w.heap.size]? = some (.cells #[.int .i64 x.q, .slice A1 x.ls.length c1, .int .i64 x.k, .slice A3 x.cs.length c3] 38 (0, 0))) ∧ Aside0 (Below w.heap.size w w'))
            case atStart => exact ⟨0, rfl, by omega, HM5, HF5, HB5⟩
            case round =>
              clear HM5 HF5 HB5
              obtain ⟨j, rfl, hjr, HMB, HF, HB⟩ := hrel
              cases gk with
              | succ r =>
                have e1 : decide ((j : Int) < (i : Int)) = true := decide_eq_true (by omega)
                have w1' : IntKind.i64.wrap ((j : Int) + 1) = ((j + 1 : Nat) : Int) := by rw [i64_w]; unfold wrap64; omega
                have hmi := may_indN HM.out (r + 1) (by have := HN.out; omega)
                have HST := out_step HM.out r (by have := HN.out; omega)
                have hszi := Sz_of HZ.out hmi (indN_cs x (r + 1))
                obtain ⟨y, hy⟩ : ∃ y, indN x (r + 1) = y := ⟨_, rfl⟩
                obtain ⟨z, hz⟩ : ∃ z, indN x r = z := ⟨_, rfl⟩
                have HZ1 := Aside0.mk hz
                rw [hy] at HMB HST hszi
                rw [hz] at HST
                clear hy hz hmi
                obtain ⟨E1, f1, E3, f3, hbx, hrd⟩ := HMB.out
                have HI := Aside0.mk (outdent_calls_ y _ wr hrd hszi (HG.out.below HB.out))
                rw [HST] at HI
                have m0 : wr.cell? ⟨bm, 0, none⟩ = some (.int .i64 y.q) := (blk_cell hbx 0).trans rfl
                have me0 : wr.frozen? ⟨bm, 0, none⟩ = false := blk_frozen hbx 0
                have m1 : wr.cell? ⟨bm, 1, none⟩ = some (.slice E1 y.ls.length f1) := (blk_cell hbx 1).trans rfl
                have me1 : wr.frozen? ⟨bm, 1, none⟩ = false := blk_frozen hbx 1
                have m2 : wr.cell? ⟨bm, 2, none⟩ = some (.int .i64 y.k) := (blk_cell hbx 2).trans rfl
                have me2 : wr.frozen? ⟨bm, 2, none⟩ = false := blk_frozen hbx 2
                have m3 : wr.cell? ⟨bm, 3, none⟩ = some (.slice E3 y.cs.length f3) := (blk_cell hbx 3).trans rfl
                have me3 : wr.frozen? ⟨bm, 3, none⟩ = false := blk_frozen hbx 3
                have HBX := Aside0.mk hbx
                clear hbx hrd HST HMB hszi
                go_wp2_with (go_at_call 43; refine HI.out.mono ?_; rintro e w4 hbk; obtain ⟨G1, g1, G3, g3, rfl, hw, hb⟩ := hbk.low (w := w); dsimp only at hw; have HW := Aside0.mk hw; have HB4 := Aside0.mk hb; have fb := blk_below HBX.out hb; have n0 : ∀ o', (w4.alloc o').cell? ⟨bm, 0, none⟩ = some (.int .i64 y.q) := fun o' => (blk_cell (blk_alloc fb o') 0).trans rfl; have ne0 : ∀ o', (w4.alloc o').frozen? ⟨bm, 0, none⟩ = false := fun o' => blk_frozen (blk_alloc fb o') 0; have n1 : ∀ o', (w4.alloc o').cell? ⟨bm, 1, none⟩ = some (.slice E1 y.ls.length f1) := fun o' => (blk_cell (blk_alloc fb o') 1).trans rfl; have ne1 : ∀ o', (w4.alloc o').frozen? ⟨bm, 1, none⟩ = false := fun o' => blk_frozen (blk_alloc fb o') 1; have n2 : ∀ o', (w4.alloc o').cell? ⟨bm, 2, none⟩ = some (.int .i64 y.k) := fun o' => (blk_cell (blk_alloc fb o') 2).trans rfl; have ne2 : ∀ o', (w4.alloc o').frozen? ⟨bm, 2, none⟩ = false := fun o' => blk_frozen (blk_alloc fb o') 2; have n3 : ∀ o', (w4.alloc o').cell? ⟨bm, 3, none⟩ = some (.slice E3 y.cs.length f3) := fun o' => (blk_cell (blk_alloc fb o') 3).trans rfl; have ne3 : ∀ o', (w4.alloc o').frozen? ⟨bm, 3, none⟩ = false := fun o' => blk_frozen (blk_alloc fb o') 3; have FBX := Aside0.mk fb; clear hw hb fb)
                go_roundg r
                case measure => omega
                case rel => exact ⟨j + 1, by first | rfl | (simp; done), by omega, ⟨by rw [HZ1.out]; exact ⟨G1, g1, G3, g3, put4_blk (blk_alloc FBX.out _), (put4_WrL (HW.out.below (below_alloc (Below.refl _ _) _)) (blk_alloc FBX.out _)).rd⟩⟩, ⟨put4_off (blk_alloc (blk_below HF.out HB4.out) _) hne0⟩, ⟨put4_below (below_alloc (below_step HB.out HB4.out) _) hbm⟩⟩
              | zero =>
                obtain rfl : j = i := by omega
                have e1 : decide ((j : Int) < (j : Int)) = false := decide_eq_false (by omega)
                rw [indN_zero] at HMB
                obtain ⟨E1, f1, E3, f3, hbx, hrd⟩ := HMB.out
                have HSM := Aside0.mk (same_calls_ x x _ (.agg #[.int .i64 x.q, .slice A1 x.ls.length c1, .int .i64 x.k, .slice A3 x.cs.length c3]) wr hrd (HX.out.below HB.out) HZ.out)
                rw [sameL_iff.2 rfl] at HSM
                have m0 : wr.cell? ⟨bm, 0, none⟩ = some (.int .i64 x.q) := (blk_cell hbx 0).trans rfl
                have m1 : wr.cell? ⟨bm, 1, none⟩ = some (.slice E1 x.ls.length f1) := (blk_cell hbx 1).trans rfl
                have m2 : wr.cell? ⟨bm, 2, none⟩ = some (.int .i64 x.k) := (blk_cell hbx 2).trans rfl
                have m3 : wr.cell? ⟨bm, 3, none⟩ = some (.slice E3 x.cs.length f3) := (blk_cell hbx 3).trans rfl
                have hfl := HF.out
                have l0 : wr.cell? ⟨w.heap.size, 0, none⟩ = some (.int .i64 x.q) := (blk_cell hfl 0).trans rfl
                have l1 : wr.cell? ⟨w.heap.size, 1, none⟩ = some (.slice A1 x.ls.length c1) := (blk_cell hfl 1).trans rfl
                have l2 : wr.cell? ⟨w.heap.size, 2, none⟩ = some (.int .i64 x.k) := (blk_cell hfl 2).trans rfl
                have l3 : wr.cell? ⟨w.heap.size, 3, none⟩ = some (.slice A3 x.cs.length c3) := (blk_cell hfl 3).trans rfl
                clear hbx hrd hfl
                go_wp2_with (first | (go_at_call 19; refine HSM.out.mono ?_; rintro e w5 ⟨rfl, hb⟩; have HB5 := Aside0.mk hb; clear hb) | (go_at_call 25; refine (HAW.out _ (below_step HB.out HB5.out)).mono ?_; rintro e wz ⟨rfl, hb⟩; have HBZ := Aside0.mk hb; clear hb))
                go_ret
                exact ⟨rfl, below_step (below_step HB.out HB5.out) HBZ.out⟩
end Go.Proofs.YtgdpknmffohhaaaDoor.Pl
