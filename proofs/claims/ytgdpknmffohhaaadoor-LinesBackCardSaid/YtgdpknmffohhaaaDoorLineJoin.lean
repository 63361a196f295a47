/- lines.Join: one line out of two. -/
import Derived.Test.YtgdpknmffohhaaaDoorLinePure
namespace Go.Proofs.YtgdpknmffohhaaaDoor.Pl
open Go.RowKit Go.Lib Go.Proofs.YtgdpknmffohhaaaDoorW.PrintWords Go.Proofs.YtgdpknmffohhaaaDoorW.PrintLast Go.Proofs.YtgdpknmffohhaaaDoorW.PrintMore
set_option linter.unusedVariables false
def joinR (x y : Ln) : Ln × Int := if mayL x = true ∧ mayL y = true then ({ x with cs := x.cs ++ y.cs }, 0) else (zeroLn, 1)
theorem grownC_box_ {W w1 : World} {base : Nat} {v1 : Value} {cs : List S71} {o : Nat} {cells : Array Value} (hr : Kd.R k71 71 W base (fun _ => True) v1 cs) (hg : W.grownBy w1 v1.ownBlock) (h : W.heap[o]? = some (.cells cells 38 (0, 0))) : w1.heap[o]? = some (.cells cells 38 (0, 0)) :=
  blk_grown h hg (fun e => by
    obtain ⟨cs, hc⟩ := Kd.R_typed hr o e.symm
    rw [h] at hc
    injection hc with hc
    injection hc with _ hc
    exact absurd hc (by decide))
set_option maxRecDepth 100000 in
set_option maxHeartbeats 8000000 in
theorem join_calls_ (x y : Ln) (v u : Value) (w : World) (hx : RdL w v x) (hy : RdL w u y) (hz : Sz x) (hzy : Sz y) (hG : Gl_ w) :
    Calls Tryd.prog 30 #[v, u] w fun e w' => Back_ w (joinR x y) e w' := by
  have hu38 := Tryd.underlying38
  obtain ⟨_, _, rfl, ⟨A1, c1, rfl, h1, hc1⟩, ⟨A3, c3, rfl, h3, hc3⟩⟩ := hx
  obtain ⟨_, _, rfl, ⟨D1, e1, rfl, g1, gc1⟩, ⟨D3, e3, rfl, g3, gc3⟩⟩ := hy
  have hX : RdL w (.agg #[.int .i64 x.q, .slice A1 x.ls.length c1, .int .i64 x.k, .slice A3 x.cs.length c3]) x := ⟨_, _, rfl, ⟨A1, c1, rfl, h1, hc1⟩, ⟨A3, c3, rfl, h3, hc3⟩⟩
  have hY : RdL w (.agg #[.int .i64 y.q, .slice D1 y.ls.length e1, .int .i64 y.k, .slice D3 y.cs.length e3]) y := ⟨_, _, rfl, ⟨D1, e1, rfl, g1, gc1⟩, ⟨D3, e3, rfl, g3, gc3⟩⟩
  have HM1 := Aside0.mk (fun W (hW : Below w.heap.size w W) => may_calls_ x _ W (hX.below hW) hz (hG.below hW))
  have HM2 := Aside0.mk (fun W (hW : Below w.heap.size w W) => may_calls_ y _ W (hY.below hW) hzy (hG.below hW))
  have HO := Aside0.mk (fun W (hW : Below w.heap.size w W) => own_calls_ x _ W (hX.below hW) hz)
  have HYC := Aside0.mk (show Kd.C k71 w D3 y.cs.length y.cs from g3)
  have HLN := Aside0.mk (show x.cs.length ≤ 100000 ∧ y.cs.length ≤ 100000 from ⟨hz.2.1, hzy.2.1⟩)
  have HGC := Aside0.mk gc3
  obtain ⟨F0, F1, F2, FB⟩ := three_boxes_ w (.cells #[.int .i64 x.q, .slice A1 x.ls.length c1, .int .i64 x.k, .slice A3 x.cs.length c3] 38) (.cells #[.int .i64 y.q, .slice D1 y.ls.length e1, .int .i64 y.k, .slice D3 y.cs.length e3] 38) (.cells #[.int .i64 0, .slice none 0 0, .int .i64 0, .slice none 0 0] 38)
  clear h1 h3 hc1 hc3 g1 g3 gc1 hz hzy hG hX hY
  go_enter Tryd.func30, Tryd.ntmps30
  go_upto_region 1 with (fail)
  generalize ((w.alloc (.cells #[.int .i64 x.q, .slice A1 x.ls.length c1, .int .i64 x.k, .slice A3 x.cs.length c3] 38)).alloc (.cells #[.int .i64 y.q, .slice D1 y.ls.length e1, .int .i64 y.k, .slice D3 y.cs.length e3] 38)).alloc (.cells #[.int .i64 0, .slice none 0 0, .int .i64 0, .slice none 0 0] 38) = W0 at F0 F1 F2 FB ⊢
  have p0 : W0.cell? ⟨w.heap.size, 0, none⟩ = some (.int .i64 x.q) := (blk_cell F0 0).trans rfl
  have p1 : W0.cell? ⟨w.heap.size, 1, none⟩ = some (.slice A1 x.ls.length c1) := (blk_cell F0 1).trans rfl
  have p2 : W0.cell? ⟨w.heap.size, 2, none⟩ = some (.int .i64 x.k) := (blk_cell F0 2).trans rfl
  have p3 : W0.cell? ⟨w.heap.size, 3, none⟩ = some (.slice A3 x.cs.length c3) := (blk_cell F0 3).trans rfl
  have q0 : W0.cell? ⟨w.heap.size + 1, 0, none⟩ = some (.int .i64 y.q) := (blk_cell F1 0).trans rfl
  have q1 : W0.cell? ⟨w.heap.size + 1, 1, none⟩ = some (.slice D1 y.ls.length e1) := (blk_cell F1 1).trans rfl
  have q2 : W0.cell? ⟨w.heap.size + 1, 2, none⟩ = some (.int .i64 y.k) := (blk_cell F1 2).trans rfl
  have q3 : W0.cell? ⟨w.heap.size + 1, 3, none⟩ = some (.slice D3 y.cs.length e3) := (blk_cell F1 3).trans rfl
  have o0 : W0.cell? ⟨w.heap.size + 1 + 1, 0, none⟩ = some (.int .i64 0) := (blk_cell F2 0).trans rfl
  have oe0 : W0.frozen? ⟨w.heap.size + 1 + 1, 0, none⟩ = false := blk_frozen F2 0
  have o1 : W0.cell? ⟨w.heap.size + 1 + 1, 1, none⟩ = some (.slice none 0 0) := (blk_cell F2 1).trans rfl
  have oe1 : W0.frozen? ⟨w.heap.size + 1 + 1, 1, none⟩ = false := blk_frozen F2 1
  have o2 : W0.cell? ⟨w.heap.size + 1 + 1, 2, none⟩ = some (.int .i64 0) := (blk_cell F2 2).trans rfl
  have oe2 : W0.frozen? ⟨w.heap.size + 1 + 1, 2, none⟩ = false := blk_frozen F2 2
  have o3 : W0.cell? ⟨w.heap.size + 1 + 1, 3, none⟩ = some (.slice none 0 0) := (blk_cell F2 3).trans rfl
  have oe3 : W0.frozen? ⟨w.heap.size + 1 + 1, 3, none⟩ = false := blk_frozen F2 3
  have HF0 := Aside0.mk F0
  have HF1 := Aside0.mk F1
  have HF2 := Aside0.mk F2
  have HFB := Aside0.mk FB
  clear F0 F1 F2 FB
  cases hm : mayL x with
  | false =>
    rw [hm] at HM1
    have HR := Aside0.mk (show joinR x y = (zeroLn, 1) by unfold joinR; rw [if_neg (by rw [hm]; simp)])
    go_wp2_with (go_at_call 37; refine (HM1.out _ HFB.out).mono ?_; rintro e w1 ⟨rfl, hb⟩; have HB1 := Aside0.mk hb; have fb := blk_below HF0.out hb; have fy := blk_below HF1.out hb; have fz := blk_below HF2.out hb; have r0 : w1.cell? ⟨w.heap.size, 0, none⟩ = some (.int .i64 x.q) := (blk_cell fb 0).trans rfl; have r1 : w1.cell? ⟨w.heap.size, 1, none⟩ = some (.slice A1 x.ls.length c1) := (blk_cell fb 1).trans rfl; have r2 : w1.cell? ⟨w.heap.size, 2, none⟩ = some (.int .i64 x.k) := (blk_cell fb 2).trans rfl; have r3 : w1.cell? ⟨w.heap.size, 3, none⟩ = some (.slice A3 x.cs.length c3) := (blk_cell fb 3).trans rfl; have s0 : w1.cell? ⟨w.heap.size + 1, 0, none⟩ = some (.int .i64 y.q) := (blk_cell fy 0).trans rfl; have s1 : w1.cell? ⟨w.heap.size + 1, 1, none⟩ = some (.slice D1 y.ls.length e1) := (blk_cell fy 1).trans rfl; have s2 : w1.cell? ⟨w.heap.size + 1, 2, none⟩ = some (.int .i64 y.k) := (blk_cell fy 2).trans rfl; have s3 : w1.cell? ⟨w.heap.size + 1, 3, none⟩ = some (.slice D3 y.cs.length e3) := (blk_cell fy 3).trans rfl; have t0 : w1.cell? ⟨w.heap.size + 1 + 1, 0, none⟩ = some (.int .i64 0) := (blk_cell fz 0).trans rfl; have te0 : w1.frozen? ⟨w.heap.size + 1 + 1, 0, none⟩ = false := blk_frozen fz 0; have t1 : w1.cell? ⟨w.heap.size + 1 + 1, 1, none⟩ = some (.slice none 0 0) := (blk_cell fz 1).trans rfl; have te1 : w1.frozen? ⟨w.heap.size + 1 + 1, 1, none⟩ = false := blk_frozen fz 1; have t2 : w1.cell? ⟨w.heap.size + 1 + 1, 2, none⟩ = some (.int .i64 0) := (blk_cell fz 2).trans rfl; have te2 : w1.frozen? ⟨w.heap.size + 1 + 1, 2, none⟩ = false := blk_frozen fz 2; have t3 : w1.cell? ⟨w.heap.size + 1 + 1, 3, none⟩ = some (.slice none 0 0) := (blk_cell fz 3).trans rfl; have te3 : w1.frozen? ⟨w.heap.size + 1 + 1, 3, none⟩ = false := blk_frozen fz 3; have HG0 := Aside0.mk fb; have HG1 := Aside0.mk fy; have HG2 := Aside0.mk fz; clear hb fb fy fz)
    refine bodyPost_ret (results_ct rfl _ _ (w.heap.size + 1 + 1) 38 #[.int .i64 0, .slice none 0 0, .int .i64 0, .slice none 0 0] (0, 0) _ rfl (put4_blk HG2.out) Tryd.underlying38 rfl (by kernel_rfl)) rfl ?_
    exact ⟨_, by rw [HR.out]; rfl, by rw [HR.out]; exact WrL_zero _ _, put4_below (below_step HFB.out HB1.out) (by omega)⟩
  | true =>
    rw [hm] at HM1
    cases hn : mayL y with
    | false =>
      rw [hn] at HM2
      have HR := Aside0.mk (show joinR x y = (zeroLn, 1) by unfold joinR; rw [if_neg (by rw [hn]; simp)])
      go_wp2_with (first | (have h_ := HB1; clear h_; (go_at_call 37; refine (HM2.out _ (below_step HFB.out HB1.out)).mono ?_; rintro e w2 ⟨rfl, hb⟩; have HB2 := Aside0.mk hb; have fb := blk_below HG0.out hb; have fy := blk_below HG1.out hb; have fz := blk_below HG2.out hb; have k0 : w2.cell? ⟨w.heap.size, 0, none⟩ = some (.int .i64 x.q) := (blk_cell fb 0).trans rfl; have k1 : w2.cell? ⟨w.heap.size, 1, none⟩ = some (.slice A1 x.ls.length c1) := (blk_cell fb 1).trans rfl; have k2 : w2.cell? ⟨w.heap.size, 2, none⟩ = some (.int .i64 x.k) := (blk_cell fb 2).trans rfl; have k3 : w2.cell? ⟨w.heap.size, 3, none⟩ = some (.slice A3 x.cs.length c3) := (blk_cell fb 3).trans rfl; have l0 : w2.cell? ⟨w.heap.size + 1, 0, none⟩ = some (.int .i64 y.q) := (blk_cell fy 0).trans rfl; have l1 : w2.cell? ⟨w.heap.size + 1, 1, none⟩ = some (.slice D1 y.ls.length e1) := (blk_cell fy 1).trans rfl; have l2 : w2.cell? ⟨w.heap.size + 1, 2, none⟩ = some (.int .i64 y.k) := (blk_cell fy 2).trans rfl; have l3 : w2.cell? ⟨w.heap.size + 1, 3, none⟩ = some (.slice D3 y.cs.length e3) := (blk_cell fy 3).trans rfl; have m0 : w2.cell? ⟨w.heap.size + 1 + 1, 0, none⟩ = some (.int .i64 0) := (blk_cell fz 0).trans rfl; have me0 : w2.frozen? ⟨w.heap.size + 1 + 1, 0, none⟩ = false := blk_frozen fz 0; have m1 : w2.cell? ⟨w.heap.size + 1 + 1, 1, none⟩ = some (.slice none 0 0) := (blk_cell fz 1).trans rfl; have me1 : w2.frozen? ⟨w.heap.size + 1 + 1, 1, none⟩ = false := blk_frozen fz 1; have m2 : w2.cell? ⟨w.heap.size + 1 + 1, 2, none⟩ = some (.int .i64 0) := (blk_cell fz 2).trans rfl; have me2 : w2.frozen? ⟨w.heap.size + 1 + 1, 2, none⟩ = false := blk_frozen fz 2; have m3 : w2.cell? ⟨w.heap.size + 1 + 1, 3, none⟩ = some (.slice none 0 0) := (blk_cell fz 3).trans rfl; have me3 : w2.frozen? ⟨w.heap.size + 1 + 1, 3, none⟩ = false := blk_frozen fz 3; have HK0 := Aside0.mk fb; have HK1 := Aside0.mk fy; have HK2 := Aside0.mk fz; clear hb fb fy fz)) | (go_at_call 37; refine (HM1.out _ HFB.out).mono ?_; rintro e w1 ⟨rfl, hb⟩; have HB1 := Aside0.mk hb; have fb := blk_below HF0.out hb; have fy := blk_below HF1.out hb; have fz := blk_below HF2.out hb; have r0 : w1.cell? ⟨w.heap.size, 0, none⟩ = some (.int .i64 x.q) := (blk_cell fb 0).trans rfl; have r1 : w1.cell? ⟨w.heap.size, 1, none⟩ = some (.slice A1 x.ls.length c1) := (blk_cell fb 1).trans rfl; have r2 : w1.cell? ⟨w.heap.size, 2, none⟩ = some (.int .i64 x.k) := (blk_cell fb 2).trans rfl; have r3 : w1.cell? ⟨w.heap.size, 3, none⟩ = some (.slice A3 x.cs.length c3) := (blk_cell fb 3).trans rfl; have s0 : w1.cell? ⟨w.heap.size + 1, 0, none⟩ = some (.int .i64 y.q) := (blk_cell fy 0).trans rfl; have s1 : w1.cell? ⟨w.heap.size + 1, 1, none⟩ = some (.slice D1 y.ls.length e1) := (blk_cell fy 1).trans rfl; have s2 : w1.cell? ⟨w.heap.size + 1, 2, none⟩ = some (.int .i64 y.k) := (blk_cell fy 2).trans rfl; have s3 : w1.cell? ⟨w.heap.size + 1, 3, none⟩ = some (.slice D3 y.cs.length e3) := (blk_cell fy 3).trans rfl; have t0 : w1.cell? ⟨w.heap.size + 1 + 1, 0, none⟩ = some (.int .i64 0) := (blk_cell fz 0).trans rfl; have te0 : w1.frozen? ⟨w.heap.size + 1 + 1, 0, none⟩ = false := blk_frozen fz 0; have t1 : w1.cell? ⟨w.heap.size + 1 + 1, 1, none⟩ = some (.slice none 0 0) := (blk_cell fz 1).trans rfl; have te1 : w1.frozen? ⟨w.heap.size + 1 + 1, 1, none⟩ = false := blk_frozen fz 1; have t2 : w1.cell? ⟨w.heap.size + 1 + 1, 2, none⟩ = some (.int .i64 0) := (blk_cell fz 2).trans rfl; have te2 : w1.frozen? ⟨w.heap.size + 1 + 1, 2, none⟩ = false := blk_frozen fz 2; have t3 : w1.cell? ⟨w.heap.size + 1 + 1, 3, none⟩ = some (.slice none 0 0) := (blk_cell fz 3).trans rfl; have te3 : w1.frozen? ⟨w.heap.size + 1 + 1, 3, none⟩ = false := blk_frozen fz 3; have HG0 := Aside0.mk fb; have HG1 := Aside0.mk fy; have HG2 := Aside0.mk fz; clear hb fb fy fz))
      refine bodyPost_ret (results_ct rfl _ _ (w.heap.size + 1 + 1) 38 #[.int .i64 0, .slice none 0 0, .int .i64 0, .slice none 0 0] (0, 0) _ rfl (put4_blk HK2.out) Tryd.underlying38 rfl (by kernel_rfl)) rfl ?_
      exact ⟨_, by rw [HR.out]; rfl, by rw [HR.out]; exact WrL_zero _ _, put4_below (below_step (below_step HFB.out HB1.out) HB2.out) (by omega)⟩
    | true =>
      rw [hn] at HM2
      have HR := Aside0.mk (show joinR x y = ({ x with cs := x.cs ++ y.cs }, 0) by unfold joinR; rw [if_pos ⟨hm, hn⟩])
      go_upto_region 4 with (first | (have h_ := HB2; clear h_; (go_at_call 39; refine (HO.out _ (below_step (below_step HFB.out HB1.out) HB2.out)).mono ?_; rintro e w3 ⟨u1, u3, rfl, ho1, ho3, hb⟩; obtain ⟨B1, d1, rfl⟩ := Kd.R_slice ho1; obtain ⟨B3, d3, rfl⟩ := Kd.R_slice ho3; have HO1 := Aside0.mk ho1; have HO3 := Aside0.mk ho3; have HB3 := Aside0.mk hb; have fb := blk_below HK0.out hb; have n0 : w3.cell? ⟨w.heap.size, 0, none⟩ = some (.int .i64 x.q) := (blk_cell fb 0).trans rfl; have ne0 : w3.frozen? ⟨w.heap.size, 0, none⟩ = false := blk_frozen fb 0; have n1 : w3.cell? ⟨w.heap.size, 1, none⟩ = some (.slice A1 x.ls.length c1) := (blk_cell fb 1).trans rfl; have ne1 : w3.frozen? ⟨w.heap.size, 1, none⟩ = false := blk_frozen fb 1; have n2 : w3.cell? ⟨w.heap.size, 2, none⟩ = some (.int .i64 x.k) := (blk_cell fb 2).trans rfl; have ne2 : w3.frozen? ⟨w.heap.size, 2, none⟩ = false := blk_frozen fb 2; have n3 : w3.cell? ⟨w.heap.size, 3, none⟩ = some (.slice A3 x.cs.length c3) := (blk_cell fb 3).trans rfl; have ne3 : w3.frozen? ⟨w.heap.size, 3, none⟩ = false := blk_frozen fb 3; have HL0 := Aside0.mk fb; clear ho1 ho3 hb fb)) | (have h_ := HB1; clear h_; (go_at_call 37; refine (HM2.out _ (below_step HFB.out HB1.out)).mono ?_; rintro e w2 ⟨rfl, hb⟩; have HB2 := Aside0.mk hb; have fb := blk_below HG0.out hb; have fy := blk_below HG1.out hb; have fz := blk_below HG2.out hb; have k0 : w2.cell? ⟨w.heap.size, 0, none⟩ = some (.int .i64 x.q) := (blk_cell fb 0).trans rfl; have k1 : w2.cell? ⟨w.heap.size, 1, none⟩ = some (.slice A1 x.ls.length c1) := (blk_cell fb 1).trans rfl; have k2 : w2.cell? ⟨w.heap.size, 2, none⟩ = some (.int .i64 x.k) := (blk_cell fb 2).trans rfl; have k3 : w2.cell? ⟨w.heap.size, 3, none⟩ = some (.slice A3 x.cs.length c3) := (blk_cell fb 3).trans rfl; have l0 : w2.cell? ⟨w.heap.size + 1, 0, none⟩ = some (.int .i64 y.q) := (blk_cell fy 0).trans rfl; have l1 : w2.cell? ⟨w.heap.size + 1, 1, none⟩ = some (.slice D1 y.ls.length e1) := (blk_cell fy 1).trans rfl; have l2 : w2.cell? ⟨w.heap.size + 1, 2, none⟩ = some (.int .i64 y.k) := (blk_cell fy 2).trans rfl; have l3 : w2.cell? ⟨w.heap.size + 1, 3, none⟩ = some (.slice D3 y.cs.length e3) := (blk_cell fy 3).trans rfl; have m0 : w2.cell? ⟨w.heap.size + 1 + 1, 0, none⟩ = some (.int .i64 0) := (blk_cell fz 0).trans rfl; have me0 : w2.frozen? ⟨w.heap.size + 1 + 1, 0, none⟩ = false := blk_frozen fz 0; have m1 : w2.cell? ⟨w.heap.size + 1 + 1, 1, none⟩ = some (.slice none 0 0) := (blk_cell fz 1).trans rfl; have me1 : w2.frozen? ⟨w.heap.size + 1 + 1, 1, none⟩ = false := blk_frozen fz 1; have m2 : w2.cell? ⟨w.heap.size + 1 + 1, 2, none⟩ = some (.int .i64 0) := (blk_cell fz 2).trans rfl; have me2 : w2.frozen? ⟨w.heap.size + 1 + 1, 2, none⟩ = false := blk_frozen fz 2; have m3 : w2.cell? ⟨w.heap.size + 1 + 1, 3, none⟩ = some (.slice none 0 0) := (blk_cell fz 3).trans rfl; have me3 : w2.frozen? ⟨w.heap.size + 1 + 1, 3, none⟩ = false := blk_frozen fz 3; have HK0 := Aside0.mk fb; have HK1 := Aside0.mk fy; have HK2 := Aside0.mk fz; clear hb fb fy fz)) | (go_at_call 37; refine (HM1.out _ HFB.out).mono ?_; rintro e w1 ⟨rfl, hb⟩; have HB1 := Aside0.mk hb; have fb := blk_below HF0.out hb; have fy := blk_below HF1.out hb; have fz := blk_below HF2.out hb; have r0 : w1.cell? ⟨w.heap.size, 0, none⟩ = some (.int .i64 x.q) := (blk_cell fb 0).trans rfl; have r1 : w1.cell? ⟨w.heap.size, 1, none⟩ = some (.slice A1 x.ls.length c1) := (blk_cell fb 1).trans rfl; have r2 : w1.cell? ⟨w.heap.size, 2, none⟩ = some (.int .i64 x.k) := (blk_cell fb 2).trans rfl; have r3 : w1.cell? ⟨w.heap.size, 3, none⟩ = some (.slice A3 x.cs.length c3) := (blk_cell fb 3).trans rfl; have s0 : w1.cell? ⟨w.heap.size + 1, 0, none⟩ = some (.int .i64 y.q) := (blk_cell fy 0).trans rfl; have s1 : w1.cell? ⟨w.heap.size + 1, 1, none⟩ = some (.slice D1 y.ls.length e1) := (blk_cell fy 1).trans rfl; have s2 : w1.cell? ⟨w.heap.size + 1, 2, none⟩ = some (.int .i64 y.k) := (blk_cell fy 2).trans rfl; have s3 : w1.cell? ⟨w.heap.size + 1, 3, none⟩ = some (.slice D3 y.cs.length e3) := (blk_cell fy 3).trans rfl; have t0 : w1.cell? ⟨w.heap.size + 1 + 1, 0, none⟩ = some (.int .i64 0) := (blk_cell fz 0).trans rfl; have te0 : w1.frozen? ⟨w.heap.size + 1 + 1, 0, none⟩ = false := blk_frozen fz 0; have t1 : w1.cell? ⟨w.heap.size + 1 + 1, 1, none⟩ = some (.slice none 0 0) := (blk_cell fz 1).trans rfl; have te1 : w1.frozen? ⟨w.heap.size + 1 + 1, 1, none⟩ = false := blk_frozen fz 1; have t2 : w1.cell? ⟨w.heap.size + 1 + 1, 2, none⟩ = some (.int .i64 0) := (blk_cell fz 2).trans rfl; have te2 : w1.frozen? ⟨w.heap.size + 1 + 1, 2, none⟩ = false := blk_frozen fz 2; have t3 : w1.cell? ⟨w.heap.size + 1 + 1, 3, none⟩ = some (.slice none 0 0) := (blk_cell fz 3).trans rfl; have te3 : w1.frozen? ⟨w.heap.size + 1 + 1, 3, none⟩ = false := blk_frozen fz 3; have HG0 := Aside0.mk fb; have HG1 := Aside0.mk fy; have HG2 := Aside0.mk fz; clear hb fb fy fz))
      have P0 := put4_blk (a := .int .i64 x.q) (b := .slice B1 x.ls.length d1) (c := .int .i64 x.k) (d := .slice B3 x.cs.length d3) HL0.out
      have P1_ := put4_off (g := w.heap.size) (a := .int .i64 x.q) (b := .slice B1 x.ls.length d1) (c := .int .i64 x.k) (d := .slice B3 x.cs.length d3) (blk_below HK1.out HB3.out) (by omega)
      have P2_ := put4_off (g := w.heap.size) (a := .int .i64 x.q) (b := .slice B1 x.ls.length d1) (c := .int .i64 x.k) (d := .slice B3 x.cs.length d3) (blk_below HK2.out HB3.out) (by omega)
      have PO1 := put4_R (a := .int .i64 x.q) (b := .slice B1 x.ls.length d1) (c := .int .i64 x.k) (d := .slice B3 x.cs.length d3) (Kd.R_lower HO1.out (below_size (below_step (below_step HFB.out HB1.out) HB2.out))) HL0.out (by decide)
      have PO3 := put4_R (a := .int .i64 x.q) (b := .slice B1 x.ls.length d1) (c := .int .i64 x.k) (d := .slice B3 x.cs.length d3) (Kd.R_lower HO3.out (below_size (below_step (below_step HFB.out HB1.out) HB2.out))) HL0.out (by decide)
      have PBB := put4_below (a := .int .i64 x.q) (b := .slice B1 x.ls.length d1) (c := .int .i64 x.k) (d := .slice B3 x.cs.length d3) (below_step (below_step (below_step HFB.out HB1.out) HB2.out) HB3.out) (Nat.le_refl _)
      unfold put4_ at P0 P1_ P2_ PO1 PO3 PBB
      generalize (((w3.setCell ⟨w.heap.size, 0, none⟩ (.int .i64 x.q)).setCell ⟨w.heap.size, 1, none⟩ (.slice B1 x.ls.length d1)).setCell ⟨w.heap.size, 2, none⟩ (.int .i64 x.k)).setCell ⟨w.heap.size, 3, none⟩ (.slice B3 x.cs.length d3) = W3 at P0 P1_ P2_ PO1 PO3 PBB ⊢
      have a0 : W3.cell? ⟨w.heap.size, 0, none⟩ = some (.int .i64 x.q) := (blk_cell P0 0).trans rfl
      have ae0 : W3.frozen? ⟨w.heap.size, 0, none⟩ = false := blk_frozen P0 0
      have a1 : W3.cell? ⟨w.heap.size, 1, none⟩ = some (.slice B1 x.ls.length d1) := (blk_cell P0 1).trans rfl
      have ae1 : W3.frozen? ⟨w.heap.size, 1, none⟩ = false := blk_frozen P0 1
      have a2 : W3.cell? ⟨w.heap.size, 2, none⟩ = some (.int .i64 x.k) := (blk_cell P0 2).trans rfl
      have ae2 : W3.frozen? ⟨w.heap.size, 2, none⟩ = false := blk_frozen P0 2
      have a3 : W3.cell? ⟨w.heap.size, 3, none⟩ = some (.slice B3 x.cs.length d3) := (blk_cell P0 3).trans rfl
      have ae3 : W3.frozen? ⟨w.heap.size, 3, none⟩ = false := blk_frozen P0 3
      have b0 : W3.cell? ⟨w.heap.size + 1, 0, none⟩ = some (.int .i64 y.q) := (blk_cell P1_ 0).trans rfl
      have b1 : W3.cell? ⟨w.heap.size + 1, 1, none⟩ = some (.slice D1 y.ls.length e1) := (blk_cell P1_ 1).trans rfl
      have b2 : W3.cell? ⟨w.heap.size + 1, 2, none⟩ = some (.int .i64 y.k) := (blk_cell P1_ 2).trans rfl
      have b3 : W3.cell? ⟨w.heap.size + 1, 3, none⟩ = some (.slice D3 y.cs.length e3) := (blk_cell P1_ 3).trans rfl
      have Q0 := Aside0.mk P0
      have Q1 := Aside0.mk P1_
      have Q2 := Aside0.mk P2_
      have P1 := Aside0.mk PO1
      have P3 := Aside0.mk PO3
      have PB := Aside0.mk PBB
      have PR := Aside0.mk (Kd.C_below HYC.out PBB)
      clear P0 P1_ P2_ PO1 PO3 PBB p0 p1 p2 p3 q0 q1 q2 q3 o0 oe0 o1 oe1 o2 oe2 o3 oe3 r0 r1 r2 r3 s0 s1 s2 s3 t0 te0 t1 te1 t2 te2 t3 te3 k0 k1 k2 k3 l0 l1 l2 l3 m0 me0 m1 me1 m2 me2 m3 me3 n0 ne0 n1 ne1 n2 ne2 n3 ne3 HB1 HB2 HB3 HO1 HO3 HL0 HK0 HK1 HK2 HG0 HG1 HG2 HF0 HF1 HF2 HFB HM1 HM2 HO
      go_upto_region 5 with ((with_reducible refine gate_builtin (b := .append) (xs := #[.tmp 18, .tmp 20]) rfl ?_); at_builtin; refine Kd.R_append_rows k71 (w0 := w) w.heap.size rfl (.tmp 18) (.tmp 20) 36 71 (.agg #[(.int .i32 0), (.int .i64 0), (.string ⟨#[]⟩)]) 32 rfl Tryd.underlying36 info71 rfl (by decide) (by omega) (.slice B3 x.cs.length d3) x.cs y.cs _ _ _ (fun _ => True) (fun _ => False) rfl rfl ?aO ?aR (fun _ _ h => h) (fun _ h => h.elim) ?aF ?aB ?aS ?aL ?_; (case aR => exact PR.out); (case aB => exact PB.out); (case aF => exact (fun _ _ => trivial)); (case aO => exact P3.out); (case aS => exact PB.out.size); (case aL => have := HLN.out; omega); intro v5 w5 ho hb hg hat; obtain ⟨C3, g3, rfl⟩ := Kd.R_slice ho; rw [List.length_append] at ho; have HC3 := Aside0.mk ho; have HB5 := Aside0.mk hb; have HC1 := Aside0.mk (Kd.R_over' P1.out (Kd.R_typed P3.out) (by decide) hg); have fb := grownC_box_ P3.out hg Q0.out; have f2 := grownC_box_ P3.out hg Q2.out; have z0 : w5.cell? ⟨w.heap.size, 0, none⟩ = some (.int .i64 x.q) := (blk_cell fb 0).trans rfl; have ze0 : w5.frozen? ⟨w.heap.size, 0, none⟩ = false := blk_frozen fb 0; have z1 : w5.cell? ⟨w.heap.size, 1, none⟩ = some (.slice B1 x.ls.length d1) := (blk_cell fb 1).trans rfl; have ze1 : w5.frozen? ⟨w.heap.size, 1, none⟩ = false := blk_frozen fb 1; have z2 : w5.cell? ⟨w.heap.size, 2, none⟩ = some (.int .i64 x.k) := (blk_cell fb 2).trans rfl; have ze2 : w5.frozen? ⟨w.heap.size, 2, none⟩ = false := blk_frozen fb 2; have z3 : w5.cell? ⟨w.heap.size, 3, none⟩ = some (.slice B3 x.cs.length d3) := (blk_cell fb 3).trans rfl; have ze3 : w5.frozen? ⟨w.heap.size, 3, none⟩ = false := blk_frozen fb 3; have R0 := Aside0.mk fb; have R2 := Aside0.mk f2; clear ho hb hg hat fb f2)
      have q0 := blk_put R0.out 3 (.slice C3 (x.cs.length + y.cs.length) g3) rfl
      have q2 := blk_off_ (g := w.heap.size) (i := 3) (u := .slice C3 (x.cs.length + y.cs.length) g3) R2.out (by omega)
      have qO1 := R_put_ HC1.out R0.out (by decide) 3 (.slice C3 (x.cs.length + y.cs.length) g3)
      have qO3 := R_put_ HC3.out R0.out (by decide) 3 (.slice C3 (x.cs.length + y.cs.length) g3)
      have qB := below_set (g := w.heap.size) (j := 3) (v := .slice C3 (x.cs.length + y.cs.length) g3) HB5.out (Nat.le_refl _)
      generalize w5.setCell ⟨w.heap.size, 3, none⟩ (.slice C3 (x.cs.length + y.cs.length) g3) = W5 at q0 q2 qO1 qO3 qB ⊢
      have gg0 : W5.cell? ⟨w.heap.size, 0, none⟩ = some (.int .i64 x.q) := (blk_cell q0 0).trans rfl
      have gg1 : W5.cell? ⟨w.heap.size, 1, none⟩ = some (.slice B1 x.ls.length d1) := (blk_cell q0 1).trans rfl
      have gg2 : W5.cell? ⟨w.heap.size, 2, none⟩ = some (.int .i64 x.k) := (blk_cell q0 2).trans rfl
      have gg3 : W5.cell? ⟨w.heap.size, 3, none⟩ = some (.slice C3 (x.cs.length + y.cs.length) g3) := (blk_cell q0 3).trans rfl
      have h0 : W5.cell? ⟨w.heap.size + 1 + 1, 0, none⟩ = some (.int .i64 0) := (blk_cell q2 0).trans rfl
      have he0 : W5.frozen? ⟨w.heap.size + 1 + 1, 0, none⟩ = false := blk_frozen q2 0
      have h1 : W5.cell? ⟨w.heap.size + 1 + 1, 1, none⟩ = some (.slice none 0 0) := (blk_cell q2 1).trans rfl
      have he1 : W5.frozen? ⟨w.heap.size + 1 + 1, 1, none⟩ = false := blk_frozen q2 1
      have h2 : W5.cell? ⟨w.heap.size + 1 + 1, 2, none⟩ = some (.int .i64 0) := (blk_cell q2 2).trans rfl
      have he2 : W5.frozen? ⟨w.heap.size + 1 + 1, 2, none⟩ = false := blk_frozen q2 2
      have h3 : W5.cell? ⟨w.heap.size + 1 + 1, 3, none⟩ = some (.slice none 0 0) := (blk_cell q2 3).trans rfl
      have he3 : W5.frozen? ⟨w.heap.size + 1 + 1, 3, none⟩ = false := blk_frozen q2 3
      have HQ := Aside0.mk (show WrL W5 w.heap.size (.agg #[.int .i64 x.q, .slice B1 x.ls.length d1, .int .i64 x.k, .slice C3 (x.cs.length + y.cs.length) g3]) { x with cs := x.cs ++ y.cs } from ⟨_, _, rfl, Wr.of_R qO1, Wr.of_R qO3⟩)
      have S2 := Aside0.mk q2
      have SB := Aside0.mk qB
      clear q0 q2 qO1 qO3 qB HC1 HC3 HB5 R0 R2 P1 P3 PB PR Q0 Q1 Q2 HYC HLN HGC a0 ae0 a1 ae1 a2 ae2 a3 ae3 b0 b1 b2 b3 z0 ze0 z1 ze1 z2 ze2 z3 ze3
      go_wp2_with (fail)
      refine bodyPost_ret (results_ct rfl _ _ (w.heap.size + 1 + 1) 38 #[.int .i64 x.q, .slice B1 x.ls.length d1, .int .i64 x.k, .slice C3 (x.cs.length + y.cs.length) g3] (0, 0) _ rfl (put4_blk S2.out) Tryd.underlying38 rfl (by kernel_rfl)) rfl ?_
      exact ⟨_, by rw [HR.out]; rfl, by rw [HR.out]; exact put4_WrL HQ.out S2.out, put4_below SB.out (by omega)⟩
end Go.Proofs.YtgdpknmffohhaaaDoor.Pl
