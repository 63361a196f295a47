/- LinesMay, walked. -/
import Derived.Test.YtgdpknmffohhaaaDoorM2
import Derived.Test.YtgdpknmffohhaaaDoorM1
namespace Go.Proofs.YtgdpknmffohhaaaDoor.Pl
open Go.RowKit Go.Lib Go.Proofs.YtgdpknmffohhaaaDoorW.PrintWords Go.Proofs.YtgdpknmffohhaaaDoorW.PrintLast Go.Proofs.YtgdpknmffohhaaaDoorW.PrintMore
set_option linter.unusedVariables false
theorem refframe_calls_ (x : Ln) (v : Value) (w : World) (hx : RdL w v x) (hz : Sz x) :
    Calls Tryd.prog 41 #[v] w fun e w' => ∃ A1 c1 A3 c3, e = .returned (.agg #[.int .i64 x.q, .slice A1 x.ls.length c1, .int .i64 x.k, .slice A3 0 c3]) ∧ RdL w' (.agg #[.int .i64 x.q, .slice A1 x.ls.length c1, .int .i64 x.k, .slice A3 0 c3]) ⟨x.q, x.ls, x.k, []⟩ ∧ Below w.heap.size w w' := by
  obtain ⟨_, _, rfl, ⟨A1, c1, rfl, h1, hc1⟩, ⟨A3, c3, rfl, h3, hc3⟩⟩ := hx
  refine (quillworkref06_Frame.calls _ _ _ _ _ _ _ _ x.q x.ls x.k [] w h1 hc1 h3 hc3 ?_).mono ?_
  · unfold quillworkref06_Frame.f
    simp only [Option.bind_some, List.nil_append, List.length_nil]
    rw [if_pos (by have := hz.1; omega)]
  · rintro e w' ⟨v1, v3, rfl, g1, g3, hb⟩
    obtain ⟨B1, d1, rfl⟩ := Kd.R_slice g1
    obtain ⟨B3, d3, rfl⟩ := Kd.R_slice g3
    exact ⟨B1, d1, B3, d3, rfl, ⟨_, _, rfl, (Wr.of_R g1).rd, (Wr.of_R g3).rd⟩, hb⟩
set_option maxRecDepth 100000 in
set_option maxHeartbeats 20000000 in
theorem LinesMay_calls_ (x y : Ln) (v u : Value) (w : World) (hx : RdL w v x) (hokx : ∀ c ∈ x.cs, c.f2.size ≤ 140737488355328) (hy : RdL w u y) (hoky : ∀ c ∈ y.cs, c.f2.size ≤ 140737488355328) (hG : Gl_ w) :
    Calls Tryd.prog 6 #[v, u] w fun e w' => e = .returned (.bool true) ∧ Below w.heap.size w w' := by
  have hu38 := Tryd.underlying38
  have HLX := Aside0.mk (fun W (hW : Below w.heap.size w W) => long06_calls_ x v W (hx.below hW) hokx)
  have HLY := Aside0.mk (fun W (hW : Below w.heap.size w W) => long06_calls_ y u W (hy.below hW) hoky)
  obtain ⟨_, _, rfl, ⟨A1, c1, rfl, h1, hc1⟩, ⟨A3, c3, rfl, h3, hc3⟩⟩ := hx
  obtain ⟨_, _, rfl, ⟨E1, d1, rfl, g1, gc1⟩, ⟨E3, d3, rfl, g3, gc3⟩⟩ := hy
  have HX := Aside0.mk (show RdL w (.agg #[.int .i64 x.q, .slice A1 x.ls.length c1, .int .i64 x.k, .slice A3 x.cs.length c3]) x from ⟨_, _, rfl, ⟨A1, c1, rfl, h1, hc1⟩, ⟨A3, c3, rfl, h3, hc3⟩⟩)
  have HY := Aside0.mk (show RdL w (.agg #[.int .i64 y.q, .slice E1 y.ls.length d1, .int .i64 y.k, .slice E3 y.cs.length d3]) y from ⟨_, _, rfl, ⟨E1, d1, rfl, g1, gc1⟩, ⟨E3, d3, rfl, g3, gc3⟩⟩)
  have HAW := Aside0.mk (fun W (hW : Below w.heap.size w W) => awake06_calls_ W (hG.below hW))
  have HG := Aside0.mk hG
  obtain ⟨F0, M0, FB⟩ := two_boxes_ w (.cells #[.int .i64 x.q, .slice A1 x.ls.length c1, .int .i64 x.k, .slice A3 x.cs.length c3] 38) (.cells #[.int .i64 y.q, .slice E1 y.ls.length d1, .int .i64 y.k, .slice E3 y.cs.length d3] 38)
  clear h1 h3 hc1 hc3 g1 g3 gc1 gc3 hokx hoky hG
  go_enter Tryd.func6, Tryd.ntmps6
  go_upto_region 1 with (fail)
  generalize (w.alloc (.cells #[.int .i64 x.q, .slice A1 x.ls.length c1, .int .i64 x.k, .slice A3 x.cs.length c3] 38)).alloc (.cells #[.int .i64 y.q, .slice E1 y.ls.length d1, .int .i64 y.k, .slice E3 y.cs.length d3] 38) = W0 at F0 M0 FB ⊢
  have p0 : W0.cell? ⟨w.heap.size, 0, none⟩ = some (.int .i64 x.q) := (blk_cell F0 0).trans rfl
  have p1 : W0.cell? ⟨w.heap.size, 1, none⟩ = some (.slice A1 x.ls.length c1) := (blk_cell F0 1).trans rfl
  have p2 : W0.cell? ⟨w.heap.size, 2, none⟩ = some (.int .i64 x.k) := (blk_cell F0 2).trans rfl
  have p3 : W0.cell? ⟨w.heap.size, 3, none⟩ = some (.slice A3 x.cs.length c3) := (blk_cell F0 3).trans rfl
  have q0 : W0.cell? ⟨w.heap.size + 1, 0, none⟩ = some (.int .i64 y.q) := (blk_cell M0 0).trans rfl
  have q1 : W0.cell? ⟨w.heap.size + 1, 1, none⟩ = some (.slice E1 y.ls.length d1) := (blk_cell M0 1).trans rfl
  have q2 : W0.cell? ⟨w.heap.size + 1, 2, none⟩ = some (.int .i64 y.k) := (blk_cell M0 2).trans rfl
  have q3 : W0.cell? ⟨w.heap.size + 1, 3, none⟩ = some (.slice E3 y.cs.length d3) := (blk_cell M0 3).trans rfl
  have HF0 := Aside0.mk F0
  have HM0 := Aside0.mk M0
  have HFB := Aside0.mk FB
  clear F0 M0 FB
  cases hlx : longL x with
  | true =>
    rw [hlx] at HLX
    go_wp2_with (first | (go_at_call 24; refine (HLX.out _ HFB.out).mono ?_; rintro e w1 ⟨rfl, hb⟩; have HB1 := Aside0.mk (below_step HFB.out hb); have fb := blk_below HF0.out hb; have fm := blk_below HM0.out hb; have r0 : w1.cell? ⟨w.heap.size, 0, none⟩ = some (.int .i64 x.q) := (blk_cell fb 0).trans rfl; have r1 : w1.cell? ⟨w.heap.size, 1, none⟩ = some (.slice A1 x.ls.length c1) := (blk_cell fb 1).trans rfl; have r2 : w1.cell? ⟨w.heap.size, 2, none⟩ = some (.int .i64 x.k) := (blk_cell fb 2).trans rfl; have r3 : w1.cell? ⟨w.heap.size, 3, none⟩ = some (.slice A3 x.cs.length c3) := (blk_cell fb 3).trans rfl; have t0 : w1.cell? ⟨w.heap.size + 1, 0, none⟩ = some (.int .i64 y.q) := (blk_cell fm 0).trans rfl; have t1 : w1.cell? ⟨w.heap.size + 1, 1, none⟩ = some (.slice E1 y.ls.length d1) := (blk_cell fm 1).trans rfl; have t2 : w1.cell? ⟨w.heap.size + 1, 2, none⟩ = some (.int .i64 y.k) := (blk_cell fm 2).trans rfl; have t3 : w1.cell? ⟨w.heap.size + 1, 3, none⟩ = some (.slice E3 y.cs.length d3) := (blk_cell fm 3).trans rfl; have HF1 := Aside0.mk fb; have HM1 := Aside0.mk fm; clear hb fb fm) | (go_at_call 25; refine (HAW.out _ HB1.out).mono ?_; rintro e wz ⟨rfl, hb⟩; have HBZ := Aside0.mk hb; clear hb))
    go_ret
    exact ⟨rfl, below_step HB1.out HBZ.out⟩
  | false =>
    rw [hlx] at HLX
    have HZ := Aside0.mk (longL_Sz hlx)
    clear hlx
    cases hly : longL y with
    | true =>
      rw [hly] at HLY
      go_wp2_with (first | (have h_ := HB1; clear h_; go_at_call 24; refine (HLY.out _ HB1.out).mono ?_; rintro e w2 ⟨rfl, hb⟩; have HB2 := Aside0.mk (below_step HB1.out hb); have fb := blk_below HF1.out hb; have fm := blk_below HM1.out hb; have u0 : w2.cell? ⟨w.heap.size, 0, none⟩ = some (.int .i64 x.q) := (blk_cell fb 0).trans rfl; have u1 : w2.cell? ⟨w.heap.size, 1, none⟩ = some (.slice A1 x.ls.length c1) := (blk_cell fb 1).trans rfl; have u2 : w2.cell? ⟨w.heap.size, 2, none⟩ = some (.int .i64 x.k) := (blk_cell fb 2).trans rfl; have u3 : w2.cell? ⟨w.heap.size, 3, none⟩ = some (.slice A3 x.cs.length c3) := (blk_cell fb 3).trans rfl; have z0 : w2.cell? ⟨w.heap.size + 1, 0, none⟩ = some (.int .i64 y.q) := (blk_cell fm 0).trans rfl; have z1 : w2.cell? ⟨w.heap.size + 1, 1, none⟩ = some (.slice E1 y.ls.length d1) := (blk_cell fm 1).trans rfl; have z2 : w2.cell? ⟨w.heap.size + 1, 2, none⟩ = some (.int .i64 y.k) := (blk_cell fm 2).trans rfl; have z3 : w2.cell? ⟨w.heap.size + 1, 3, none⟩ = some (.slice E3 y.cs.length d3) := (blk_cell fm 3).trans rfl; have HF2 := Aside0.mk fb; have HM2 := Aside0.mk fm; clear hb fb fm) | (go_at_call 24; refine (HLX.out _ HFB.out).mono ?_; rintro e w1 ⟨rfl, hb⟩; have HB1 := Aside0.mk (below_step HFB.out hb); have fb := blk_below HF0.out hb; have fm := blk_below HM0.out hb; have r0 : w1.cell? ⟨w.heap.size, 0, none⟩ = some (.int .i64 x.q) := (blk_cell fb 0).trans rfl; have r1 : w1.cell? ⟨w.heap.size, 1, none⟩ = some (.slice A1 x.ls.length c1) := (blk_cell fb 1).trans rfl; have r2 : w1.cell? ⟨w.heap.size, 2, none⟩ = some (.int .i64 x.k) := (blk_cell fb 2).trans rfl; have r3 : w1.cell? ⟨w.heap.size, 3, none⟩ = some (.slice A3 x.cs.length c3) := (blk_cell fb 3).trans rfl; have t0 : w1.cell? ⟨w.heap.size + 1, 0, none⟩ = some (.int .i64 y.q) := (blk_cell fm 0).trans rfl; have t1 : w1.cell? ⟨w.heap.size + 1, 1, none⟩ = some (.slice E1 y.ls.length d1) := (blk_cell fm 1).trans rfl; have t2 : w1.cell? ⟨w.heap.size + 1, 2, none⟩ = some (.int .i64 y.k) := (blk_cell fm 2).trans rfl; have t3 : w1.cell? ⟨w.heap.size + 1, 3, none⟩ = some (.slice E3 y.cs.length d3) := (blk_cell fm 3).trans rfl; have HF1 := Aside0.mk fb; have HM1 := Aside0.mk fm; clear hb fb fm) | (go_at_call 25; refine (HAW.out _ HB2.out).mono ?_; rintro e wz ⟨rfl, hb⟩; have HBZ := Aside0.mk hb; clear hb))
      go_ret
      exact ⟨rfl, below_step HB2.out HBZ.out⟩
    | false =>
      rw [hly] at HLY
      have HZY := Aside0.mk (longL_Sz hly)
      clear hly
      have HO := Aside0.mk (fun W (hW : Below w.heap.size w W) => refown_calls_ x _ W (HX.out.below hW) HZ.out)
      go_upto_region 4 with (first | (have h_ := HB1; clear h_; go_at_call 24; refine (HLY.out _ HB1.out).mono ?_; rintro e w2 ⟨rfl, hb⟩; have HB2 := Aside0.mk (below_step HB1.out hb); have fb := blk_below HF1.out hb; have fm := blk_below HM1.out hb; have u0 : w2.cell? ⟨w.heap.size, 0, none⟩ = some (.int .i64 x.q) := (blk_cell fb 0).trans rfl; have u1 : w2.cell? ⟨w.heap.size, 1, none⟩ = some (.slice A1 x.ls.length c1) := (blk_cell fb 1).trans rfl; have u2 : w2.cell? ⟨w.heap.size, 2, none⟩ = some (.int .i64 x.k) := (blk_cell fb 2).trans rfl; have u3 : w2.cell? ⟨w.heap.size, 3, none⟩ = some (.slice A3 x.cs.length c3) := (blk_cell fb 3).trans rfl; have z0 : w2.cell? ⟨w.heap.size + 1, 0, none⟩ = some (.int .i64 y.q) := (blk_cell fm 0).trans rfl; have z1 : w2.cell? ⟨w.heap.size + 1, 1, none⟩ = some (.slice E1 y.ls.length d1) := (blk_cell fm 1).trans rfl; have z2 : w2.cell? ⟨w.heap.size + 1, 2, none⟩ = some (.int .i64 y.k) := (blk_cell fm 2).trans rfl; have z3 : w2.cell? ⟨w.heap.size + 1, 3, none⟩ = some (.slice E3 y.cs.length d3) := (blk_cell fm 3).trans rfl; have HF2 := Aside0.mk fb; have HM2 := Aside0.mk fm; clear hb fb fm) | (go_at_call 24; refine (HLX.out _ HFB.out).mono ?_; rintro e w1 ⟨rfl, hb⟩; have HB1 := Aside0.mk (below_step HFB.out hb); have fb := blk_below HF0.out hb; have fm := blk_below HM0.out hb; have r0 : w1.cell? ⟨w.heap.size, 0, none⟩ = some (.int .i64 x.q) := (blk_cell fb 0).trans rfl; have r1 : w1.cell? ⟨w.heap.size, 1, none⟩ = some (.slice A1 x.ls.length c1) := (blk_cell fb 1).trans rfl; have r2 : w1.cell? ⟨w.heap.size, 2, none⟩ = some (.int .i64 x.k) := (blk_cell fb 2).trans rfl; have r3 : w1.cell? ⟨w.heap.size, 3, none⟩ = some (.slice A3 x.cs.length c3) := (blk_cell fb 3).trans rfl; have t0 : w1.cell? ⟨w.heap.size + 1, 0, none⟩ = some (.int .i64 y.q) := (blk_cell fm 0).trans rfl; have t1 : w1.cell? ⟨w.heap.size + 1, 1, none⟩ = some (.slice E1 y.ls.length d1) := (blk_cell fm 1).trans rfl; have t2 : w1.cell? ⟨w.heap.size + 1, 2, none⟩ = some (.int .i64 y.k) := (blk_cell fm 2).trans rfl; have t3 : w1.cell? ⟨w.heap.size + 1, 3, none⟩ = some (.slice E3 y.cs.length d3) := (blk_cell fm 3).trans rfl; have HF1 := Aside0.mk fb; have HM1 := Aside0.mk fm; clear hb fb fm) | (go_at_call 26; refine (HO.out _ HB2.out).mono ?_; rintro e w3 ⟨u1, u3, rfl, ho1, ho3, hb⟩; obtain ⟨S1, S1', rfl⟩ := Kd.R_slice ho1; obtain ⟨S3, S3', rfl⟩ := Kd.R_slice ho3; have HO1 := Aside0.mk ((Wr.of_R ho1).lower (Nat.zero_le _)); have HO3 := Aside0.mk ((Wr.of_R ho3).lower (Nat.zero_le _)); have HB3 := Aside0.mk hb; clear ho1 ho3 hb))
      have F3 := heap_alloc_new w3 (.cells #[.int .i64 x.q, .slice S1 x.ls.length S1', .int .i64 x.k, .slice S3 x.cs.length S3'] 38)
      have FL := below_alloc (Below.refl w3.heap.size w3) (.cells #[.int .i64 x.q, .slice S1 x.ls.length S1', .int .i64 x.k, .slice S3 x.cs.length S3'] 38)
      have HF := Aside0.mk (blk_below (blk_below HF2.out HB3.out) FL)
      have HM := Aside0.mk (blk_below (blk_below HM2.out HB3.out) FL)
      have HB := Aside0.mk (below_step (below_step HB2.out HB3.out) FL)
      have HWO := Aside0.mk (show WrL (w3.alloc (.cells #[.int .i64 x.q, .slice S1 x.ls.length S1', .int .i64 x.k, .slice S3 x.cs.length S3'] 38)) 0 (.agg #[.int .i64 x.q, .slice S1 x.ls.length S1', .int .i64 x.k, .slice S3 x.cs.length S3']) x from ⟨_, _, rfl, HO1.out.below FL, HO3.out.below FL⟩)
      have HS := Aside0.mk F3
      have HNS := Aside0.mk (show w.heap.size < w3.heap.size from Nat.lt_of_lt_of_le (blk_lt HF2.out) HB3.out.size)
      generalize w3.alloc (.cells #[.int .i64 x.q, .slice S1 x.ls.length S1', .int .i64 x.k, .slice S3 x.cs.length S3'] 38) = W at HF HM HB HWO HS ⊢
      generalize w3.heap.size = bs at HS HNS ⊢
      clear F3 FL HLX HLY HO HO1 HO3 HB1 HB2 HB3 HF0 HF1 HF2 HM0 HM1 HM2 HFB p0 p1 p2 p3 q0 q1 q2 q3 r0 r1 r2 r3 t0 t1 t2 t3 u0 u1 u2 u3 z0 z1 z2 z3
      have HFd := Aside0.mk (show W.drew.heap[w.heap.size]? = some (.cells #[.int .i64 x.q, .slice A1 x.ls.length c1, .int .i64 x.k, .slice A3 x.cs.length c3] 38 (0, 0)) from HF.out)
      have HMd := Aside0.mk (show W.drew.heap[w.heap.size + 1]? = some (.cells #[.int .i64 y.q, .slice E1 y.ls.length d1, .int .i64 y.k, .slice E3 y.cs.length d3] 38 (0, 0)) from HM.out)
      have HSd := Aside0.mk (show W.drew.heap[bs]? = some (.cells #[.int .i64 x.q, .slice S1 x.ls.length S1', .int .i64 x.k, .slice S3 x.cs.length S3'] 38 (0, 0)) from HS.out)
      have HBd := Aside0.mk (below_drew1 HB.out)
      have HWd := Aside0.mk (HWO.out.below (below_drew1 (Below.refl W.heap.size W)))
      clear HF HM HB HWO HS
      refine start_ (n := 20) (S := fun W' => (W'.cell? ⟨w.heap.size, 0, none⟩ = some (.int .i64 x.q) ∧ W'.cell? ⟨w.heap.size, 1, none⟩ = some (.slice A1 x.ls.length c1) ∧ W'.cell? ⟨w.heap.size, 2, none⟩ = some (.int .i64 x.k) ∧ W'.cell? ⟨w.heap.size, 3, none⟩ = some (.slice A3 x.cs.length c3)) ∧ (W'.cell? ⟨w.heap.size + 1, 0, none⟩ = some (.int .i64 y.q) ∧ W'.cell? ⟨w.heap.size + 1, 1, none⟩ = some (.slice E1 y.ls.length d1) ∧ W'.cell? ⟨w.heap.size + 1, 2, none⟩ = some (.int .i64 y.k) ∧ W'.cell? ⟨w.heap.size + 1, 3, none⟩ = some (.slice E3 y.cs.length d3)) ∧ (W'.cell? ⟨bs, 0, none⟩ = some (.int .i64 x.q) ∧ W'.cell? ⟨bs, 1, none⟩ = some (.slice S1 x.ls.length S1') ∧ W'.cell? ⟨bs, 2, none⟩ = some (.int .i64 x.k) ∧ W'.cell? ⟨bs, 3, none⟩ = some (.slice S3 x.cs.length S3'))) (ds := []) #[false, false, false, false, false, false, false, false, false, false, false, false, false, false, false, false, false, false, false, false] (by kernel_rfl) rfl rfl ⟨⟨(blk_cell HFd.out 0).trans rfl, (blk_cell HFd.out 1).trans rfl, (blk_cell HFd.out 2).trans rfl, (blk_cell HFd.out 3).trans rfl⟩, ⟨(blk_cell HMd.out 0).trans rfl, (blk_cell HMd.out 1).trans rfl, (blk_cell HMd.out 2).trans rfl, (blk_cell HMd.out 3).trans rfl⟩, ⟨(blk_cell HSd.out 0).trans rfl, (blk_cell HSd.out 1).trans rfl, (blk_cell HSd.out 2).trans rfl, (blk_cell HSd.out 3).trans rfl⟩⟩ (fun hHeld => ?_)
      generalize W.drew = W at HFd HMd HSd HBd HWd hHeld ⊢
      obtain ⟨m, hm⟩ : ∃ m, mayL x = m := ⟨_, rfl⟩
      obtain ⟨k, hk⟩ : ∃ k, sameL x y = k := ⟨_, rfl⟩
      have HC1 := Aside0.mk (may_calls_ x _ W (HX.out.below HBd.out) HZ.out (HG.out.below HBd.out))
      have HC2 := Aside0.mk (fun W' (hW : Below W.heap.size W W') => refmay_calls_ x _ W' (HWd.out.rd.below hW) HZ.out)
      have HC3 := Aside0.mk (fun W' (hW : Below W.heap.size W W') => same_calls_ x y _ _ W' (HX.out.below (below_step HBd.out hW)) (HY.out.below (below_step HBd.out hW)) HZ.out)
      have HC4 := Aside0.mk (fun W' (hW : Below W.heap.size W W') => refsame_calls_ x y _ _ W' (HX.out.below (below_step HBd.out hW)) (HY.out.below (below_step HBd.out hW)) HZ.out)
      have HC5 := Aside0.mk (fun W' (hW : Below W.heap.size W W') => same_calls_ x x _ _ W' (HX.out.below (below_step HBd.out hW)) (HX.out.below (below_step HBd.out hW)) HZ.out)
      rw [hm] at HC1 HC2
      rw [hk] at HC3 HC4
      rw [sameL_iff.2 rfl] at HC5
      clear hm hk
      refine take_ (i := 0) (N := some 15) (v := ?_) (a' := ?_) #[true, false, false, false, false, false, false, false, false, false, false, false, false, false, false, false, false, false, false, false] rfl rfl (by kernel_rfl) (fun _ _ _ h => h) (Or.inl ⟨by rfl, ?_⟩) hHeld ?_ ?_
      rotate_left
      · rintro w' ⟨⟨s0_0, s0_1, s0_2, s0_3⟩, ⟨s1_0, s1_1, s1_2, s1_3⟩, ⟨s2_0, s2_1, s2_2, s2_3⟩⟩
        go_simp
        with_reducible rfl
      rotate_left
      · simp only [Act.put, List.setIfInBounds_toArray, List.set_cons_zero, List.set_cons_succ]
        rfl
      refine take_ (i := 2) (N := some 17) (v := ?_) (a' := ?_) #[true, false, true, false, false, false, false, false, false, false, false, false, false, false, false, false, false, false, false, false] rfl rfl (by kernel_rfl) (fun _ _ _ h => h) (Or.inl ⟨by rfl, ?_⟩) hHeld ?_ ?_
      rotate_left
      · rintro w' ⟨⟨s0_0, s0_1, s0_2, s0_3⟩, ⟨s1_0, s1_1, s1_2, s1_3⟩, ⟨s2_0, s2_1, s2_2, s2_3⟩⟩
        go_simp
        with_reducible rfl
      rotate_left
      · simp only [Act.put, List.setIfInBounds_toArray, List.set_cons_zero, List.set_cons_succ]
        rfl
      refine one_ (i := 1) (N := some 16) #[true, true, true, false, false, false, false, false, false, false, false, false, false, false, false, false, false, false, false, false] rfl rfl (by kernel_rfl) (by decide) (fun K hK => ?_)
      refine goes_ Tryd.func37 (by kernel_rfl) rfl #[.agg #[.int .i64 x.q, .slice A1 x.ls.length c1, .int .i64 x.k, .slice A3 x.cs.length c3]] (by rfl) rfl rfl (by (try simp only [List.map_toArray, List.map_cons, List.map_nil]); first | done | rfl) ?_
      refine (HC1.out).mono ?_
      rintro e q1 ⟨rfl, hb⟩
      have HQ1 := Aside0.mk hb
      refine ⟨_, rfl, ?_⟩
      refine hK.out _ _ ⟨⟨(blk_cell (blk_below HFd.out HQ1.out) 0).trans rfl, (blk_cell (blk_below HFd.out HQ1.out) 1).trans rfl, (blk_cell (blk_below HFd.out HQ1.out) 2).trans rfl, (blk_cell (blk_below HFd.out HQ1.out) 3).trans rfl⟩, ⟨(blk_cell (blk_below HMd.out HQ1.out) 0).trans rfl, (blk_cell (blk_below HMd.out HQ1.out) 1).trans rfl, (blk_cell (blk_below HMd.out HQ1.out) 2).trans rfl, (blk_cell (blk_below HMd.out HQ1.out) 3).trans rfl⟩, ⟨(blk_cell (blk_below HSd.out HQ1.out) 0).trans rfl, (blk_cell (blk_below HSd.out HQ1.out) 1).trans rfl, (blk_cell (blk_below HSd.out HQ1.out) 2).trans rfl, (blk_cell (blk_below HSd.out HQ1.out) 3).trans rfl⟩⟩ (fun hHeld => ?_)
      clear hK K hb
      refine norm_ (a' := ?_) ?_ ?_
      rotate_left
      · show Act.put _ (some 16) _ = _
        simp only [Act.put, List.setIfInBounds_toArray, List.set_cons_zero, List.set_cons_succ]
        rfl
      refine one_ (i := 3) (N := some 18) #[true, true, true, true, false, false, false, false, false, false, false, false, false, false, false, false, false, false, false, false] rfl rfl (by kernel_rfl) (by decide) (fun K hK => ?_)
      refine goes_ Tryd.func38 (by kernel_rfl) rfl #[.agg #[.int .i64 x.q, .slice S1 x.ls.length S1', .int .i64 x.k, .slice S3 x.cs.length S3']] (by rfl) rfl rfl (by (try simp only [List.map_toArray, List.map_cons, List.map_nil]); first | done | rfl) ?_
      refine (HC2.out _ HQ1.out).mono ?_
      rintro e q2 ⟨rfl, hb⟩
      have HQ2 := Aside0.mk (below_step HQ1.out hb)
      refine ⟨_, rfl, ?_⟩
      refine hK.out _ _ ⟨⟨(blk_cell (blk_below HFd.out HQ2.out) 0).trans rfl, (blk_cell (blk_below HFd.out HQ2.out) 1).trans rfl, (blk_cell (blk_below HFd.out HQ2.out) 2).trans rfl, (blk_cell (blk_below HFd.out HQ2.out) 3).trans rfl⟩, ⟨(blk_cell (blk_below HMd.out HQ2.out) 0).trans rfl, (blk_cell (blk_below HMd.out HQ2.out) 1).trans rfl, (blk_cell (blk_below HMd.out HQ2.out) 2).trans rfl, (blk_cell (blk_below HMd.out HQ2.out) 3).trans rfl⟩, ⟨(blk_cell (blk_below HSd.out HQ2.out) 0).trans rfl, (blk_cell (blk_below HSd.out HQ2.out) 1).trans rfl, (blk_cell (blk_below HSd.out HQ2.out) 2).trans rfl, (blk_cell (blk_below HSd.out HQ2.out) 3).trans rfl⟩⟩ (fun hHeld => ?_)
      clear hK K hb
      refine norm_ (a' := ?_) ?_ ?_
      rotate_left
      · show Act.put _ (some 18) _ = _
        simp only [Act.put, List.setIfInBounds_toArray, List.set_cons_zero, List.set_cons_succ]
        rfl
      refine pure_ (i := 4) (N := some 19) (v := ?_) (a' := ?_) #[true, true, true, true, true, false, false, false, false, false, false, false, false, false, false, false, false, false, false, false] rfl rfl (by kernel_rfl) (fun _ _ _ h => h) (Or.inl ⟨by rfl, ?_⟩) ?_ ?_
      rotate_left
      · intro w'
        go_simp
        with_reducible rfl
      rotate_left
      · simp only [Act.put, List.setIfInBounds_toArray, List.set_cons_zero, List.set_cons_succ]
        rfl
      refine pure_ (i := 5) (N := some 20) (v := ?_) (a' := ?_) #[true, true, true, true, true, true, false, false, false, false, false, false, false, false, false, false, false, false, false, false] rfl rfl (by kernel_rfl) (fun _ _ _ h => h) (Or.inl ⟨by rfl, ?_⟩) ?_ ?_
      rotate_left
      · intro w'
        go_simp
        with_reducible rfl
      rotate_left
      · simp only [Act.put, List.setIfInBounds_toArray, List.set_cons_zero, List.set_cons_succ]
        rfl
      refine take_ (i := 6) (N := some 21) (v := ?_) (a' := ?_) #[true, true, true, true, true, true, true, false, false, false, false, false, false, false, false, false, false, false, false, false] rfl rfl (by kernel_rfl) (fun _ _ _ h => h) (Or.inl ⟨by rfl, ?_⟩) hHeld ?_ ?_
      rotate_left
      · rintro w' ⟨⟨s0_0, s0_1, s0_2, s0_3⟩, ⟨s1_0, s1_1, s1_2, s1_3⟩, ⟨s2_0, s2_1, s2_2, s2_3⟩⟩
        go_simp
        with_reducible rfl
      rotate_left
      · simp only [Act.put, List.setIfInBounds_toArray, List.set_cons_zero, List.set_cons_succ]
        rfl
      refine take_ (i := 7) (N := some 22) (v := ?_) (a' := ?_) #[true, true, true, true, true, true, true, true, false, false, false, false, false, false, false, false, false, false, false, false] rfl rfl (by kernel_rfl) (fun _ _ _ h => h) (Or.inl ⟨by rfl, ?_⟩) hHeld ?_ ?_
      rotate_left
      · rintro w' ⟨⟨s0_0, s0_1, s0_2, s0_3⟩, ⟨s1_0, s1_1, s1_2, s1_3⟩, ⟨s2_0, s2_1, s2_2, s2_3⟩⟩
        go_simp
        with_reducible rfl
      rotate_left
      · simp only [Act.put, List.setIfInBounds_toArray, List.set_cons_zero, List.set_cons_succ]
        rfl
      refine take_ (i := 9) (N := some 24) (v := ?_) (a' := ?_) #[true, true, true, true, true, true, true, true, false, true, false, false, false, false, false, false, false, false, false, false] rfl rfl (by kernel_rfl) (fun _ _ _ h => h) (Or.inl ⟨by rfl, ?_⟩) hHeld ?_ ?_
      rotate_left
      · rintro w' ⟨⟨s0_0, s0_1, s0_2, s0_3⟩, ⟨s1_0, s1_1, s1_2, s1_3⟩, ⟨s2_0, s2_1, s2_2, s2_3⟩⟩
        go_simp
        with_reducible rfl
      rotate_left
      · simp only [Act.put, List.setIfInBounds_toArray, List.set_cons_zero, List.set_cons_succ]
        rfl
      refine take_ (i := 10) (N := some 25) (v := ?_) (a' := ?_) #[true, true, true, true, true, true, true, true, false, true, true, false, false, false, false, false, false, false, false, false] rfl rfl (by kernel_rfl) (fun _ _ _ h => h) (Or.inl ⟨by rfl, ?_⟩) hHeld ?_ ?_
      rotate_left
      · rintro w' ⟨⟨s0_0, s0_1, s0_2, s0_3⟩, ⟨s1_0, s1_1, s1_2, s1_3⟩, ⟨s2_0, s2_1, s2_2, s2_3⟩⟩
        go_simp
        with_reducible rfl
      rotate_left
      · simp only [Act.put, List.setIfInBounds_toArray, List.set_cons_zero, List.set_cons_succ]
        rfl
      refine one_ (i := 8) (N := some 23) #[true, true, true, true, true, true, true, true, true, true, true, false, false, false, false, false, false, false, false, false] rfl rfl (by kernel_rfl) (by decide) (fun K hK => ?_)
      refine goes_ Tryd.func19 (by kernel_rfl) rfl #[.agg #[.int .i64 x.q, .slice A1 x.ls.length c1, .int .i64 x.k, .slice A3 x.cs.length c3], .agg #[.int .i64 y.q, .slice E1 y.ls.length d1, .int .i64 y.k, .slice E3 y.cs.length d3]] (by rfl) rfl rfl (by (try simp only [List.map_toArray, List.map_cons, List.map_nil]); first | done | rfl) ?_
      refine (HC3.out _ HQ2.out).mono ?_
      rintro e q3 ⟨rfl, hb⟩
      have HQ3 := Aside0.mk (below_step HQ2.out hb)
      refine ⟨_, rfl, ?_⟩
      refine hK.out _ _ ⟨⟨(blk_cell (blk_below HFd.out HQ3.out) 0).trans rfl, (blk_cell (blk_below HFd.out HQ3.out) 1).trans rfl, (blk_cell (blk_below HFd.out HQ3.out) 2).trans rfl, (blk_cell (blk_below HFd.out HQ3.out) 3).trans rfl⟩, ⟨(blk_cell (blk_below HMd.out HQ3.out) 0).trans rfl, (blk_cell (blk_below HMd.out HQ3.out) 1).trans rfl, (blk_cell (blk_below HMd.out HQ3.out) 2).trans rfl, (blk_cell (blk_below HMd.out HQ3.out) 3).trans rfl⟩, ⟨(blk_cell (blk_below HSd.out HQ3.out) 0).trans rfl, (blk_cell (blk_below HSd.out HQ3.out) 1).trans rfl, (blk_cell (blk_below HSd.out HQ3.out) 2).trans rfl, (blk_cell (blk_below HSd.out HQ3.out) 3).trans rfl⟩⟩ (fun hHeld => ?_)
      clear hK K hb
      refine norm_ (a' := ?_) ?_ ?_
      rotate_left
      · show Act.put _ (some 23) _ = _
        simp only [Act.put, List.setIfInBounds_toArray, List.set_cons_zero, List.set_cons_succ]
        rfl
      refine one_ (i := 11) (N := some 26) #[true, true, true, true, true, true, true, true, true, true, true, true, false, false, false, false, false, false, false, false] rfl rfl (by kernel_rfl) (by decide) (fun K hK => ?_)
      refine goes_ Tryd.func32 (by kernel_rfl) rfl #[.agg #[.int .i64 x.q, .slice A1 x.ls.length c1, .int .i64 x.k, .slice A3 x.cs.length c3], .agg #[.int .i64 y.q, .slice E1 y.ls.length d1, .int .i64 y.k, .slice E3 y.cs.length d3]] (by rfl) rfl rfl (by (try simp only [List.map_toArray, List.map_cons, List.map_nil]); first | done | rfl) ?_
      refine (HC4.out _ HQ3.out).mono ?_
      rintro e q4 ⟨rfl, hb⟩
      have HQ4 := Aside0.mk (below_step HQ3.out hb)
      refine ⟨_, rfl, ?_⟩
      refine hK.out _ _ ⟨⟨(blk_cell (blk_below HFd.out HQ4.out) 0).trans rfl, (blk_cell (blk_below HFd.out HQ4.out) 1).trans rfl, (blk_cell (blk_below HFd.out HQ4.out) 2).trans rfl, (blk_cell (blk_below HFd.out HQ4.out) 3).trans rfl⟩, ⟨(blk_cell (blk_below HMd.out HQ4.out) 0).trans rfl, (blk_cell (blk_below HMd.out HQ4.out) 1).trans rfl, (blk_cell (blk_below HMd.out HQ4.out) 2).trans rfl, (blk_cell (blk_below HMd.out HQ4.out) 3).trans rfl⟩, ⟨(blk_cell (blk_below HSd.out HQ4.out) 0).trans rfl, (blk_cell (blk_below HSd.out HQ4.out) 1).trans rfl, (blk_cell (blk_below HSd.out HQ4.out) 2).trans rfl, (blk_cell (blk_below HSd.out HQ4.out) 3).trans rfl⟩⟩ (fun hHeld => ?_)
      clear hK K hb
      refine norm_ (a' := ?_) ?_ ?_
      rotate_left
      · show Act.put _ (some 26) _ = _
        simp only [Act.put, List.setIfInBounds_toArray, List.set_cons_zero, List.set_cons_succ]
        rfl
      refine pure_ (i := 12) (N := some 27) (v := ?_) (a' := ?_) #[true, true, true, true, true, true, true, true, true, true, true, true, true, false, false, false, false, false, false, false] rfl rfl (by kernel_rfl) (fun _ _ _ h => h) (Or.inl ⟨by rfl, ?_⟩) ?_ ?_
      rotate_left
      · intro w'
        go_simp
        with_reducible rfl
      rotate_left
      · simp only [Act.put, List.setIfInBounds_toArray, List.set_cons_zero, List.set_cons_succ]
        rfl
      refine pure_ (i := 13) (N := some 28) (v := ?_) (a' := ?_) #[true, true, true, true, true, true, true, true, true, true, true, true, true, true, false, false, false, false, false, false] rfl rfl (by kernel_rfl) (fun _ _ _ h => h) (Or.inl ⟨by rfl, ?_⟩) ?_ ?_
      rotate_left
      · intro w'
        go_simp
        with_reducible rfl
      rotate_left
      · simp only [Act.put, List.setIfInBounds_toArray, List.set_cons_zero, List.set_cons_succ]
        rfl
      refine pure_ (i := 14) (N := some 29) (v := ?_) (a' := ?_) #[true, true, true, true, true, true, true, true, true, true, true, true, true, true, true, false, false, false, false, false] rfl rfl (by kernel_rfl) (fun _ _ _ h => h) (Or.inl ⟨by rfl, ?_⟩) ?_ ?_
      rotate_left
      · intro w'
        go_simp
        with_reducible rfl
      rotate_left
      · simp only [Act.put, List.setIfInBounds_toArray, List.set_cons_zero, List.set_cons_succ]
        rfl
      refine take_ (i := 15) (N := some 30) (v := ?_) (a' := ?_) #[true, true, true, true, true, true, true, true, true, true, true, true, true, true, true, true, false, false, false, false] rfl rfl (by kernel_rfl) (fun _ _ _ h => h) (Or.inl ⟨by rfl, ?_⟩) hHeld ?_ ?_
      rotate_left
      · rintro w' ⟨⟨s0_0, s0_1, s0_2, s0_3⟩, ⟨s1_0, s1_1, s1_2, s1_3⟩, ⟨s2_0, s2_1, s2_2, s2_3⟩⟩
        go_simp
        with_reducible rfl
      rotate_left
      · simp only [Act.put, List.setIfInBounds_toArray, List.set_cons_zero, List.set_cons_succ]
        rfl
      refine take_ (i := 16) (N := some 31) (v := ?_) (a' := ?_) #[true, true, true, true, true, true, true, true, true, true, true, true, true, true, true, true, true, false, false, false] rfl rfl (by kernel_rfl) (fun _ _ _ h => h) (Or.inl ⟨by rfl, ?_⟩) hHeld ?_ ?_
      rotate_left
      · rintro w' ⟨⟨s0_0, s0_1, s0_2, s0_3⟩, ⟨s1_0, s1_1, s1_2, s1_3⟩, ⟨s2_0, s2_1, s2_2, s2_3⟩⟩
        go_simp
        with_reducible rfl
      rotate_left
      · simp only [Act.put, List.setIfInBounds_toArray, List.set_cons_zero, List.set_cons_succ]
        rfl
      refine one_ (i := 17) (N := some 32) #[true, true, true, true, true, true, true, true, true, true, true, true, true, true, true, true, true, true, false, false] rfl rfl (by kernel_rfl) (by decide) (fun K hK => ?_)
      refine goes_ Tryd.func19 (by kernel_rfl) rfl #[.agg #[.int .i64 x.q, .slice A1 x.ls.length c1, .int .i64 x.k, .slice A3 x.cs.length c3], .agg #[.int .i64 x.q, .slice A1 x.ls.length c1, .int .i64 x.k, .slice A3 x.cs.length c3]] (by rfl) rfl rfl (by (try simp only [List.map_toArray, List.map_cons, List.map_nil]); first | done | rfl) ?_
      refine (HC5.out _ HQ4.out).mono ?_
      rintro e q5 ⟨rfl, hb⟩
      have HQ5 := Aside0.mk (below_step HQ4.out hb)
      refine ⟨_, rfl, ?_⟩
      refine hK.out _ _ ⟨⟨(blk_cell (blk_below HFd.out HQ5.out) 0).trans rfl, (blk_cell (blk_below HFd.out HQ5.out) 1).trans rfl, (blk_cell (blk_below HFd.out HQ5.out) 2).trans rfl, (blk_cell (blk_below HFd.out HQ5.out) 3).trans rfl⟩, ⟨(blk_cell (blk_below HMd.out HQ5.out) 0).trans rfl, (blk_cell (blk_below HMd.out HQ5.out) 1).trans rfl, (blk_cell (blk_below HMd.out HQ5.out) 2).trans rfl, (blk_cell (blk_below HMd.out HQ5.out) 3).trans rfl⟩, ⟨(blk_cell (blk_below HSd.out HQ5.out) 0).trans rfl, (blk_cell (blk_below HSd.out HQ5.out) 1).trans rfl, (blk_cell (blk_below HSd.out HQ5.out) 2).trans rfl, (blk_cell (blk_below HSd.out HQ5.out) 3).trans rfl⟩⟩ (fun hHeld => ?_)
      clear hK K hb
      refine norm_ (a' := ?_) ?_ ?_
      rotate_left
      · show Act.put _ (some 32) _ = _
        simp only [Act.put, List.setIfInBounds_toArray, List.set_cons_zero, List.set_cons_succ]
        rfl
      refine pure_ (i := 18) (N := some 33) (v := ?_) (a' := ?_) #[true, true, true, true, true, true, true, true, true, true, true, true, true, true, true, true, true, true, true, false] rfl rfl (by kernel_rfl) (fun _ _ _ h => h) (Or.inl ⟨by rfl, ?_⟩) ?_ ?_
      rotate_left
      · intro w'
        go_simp
        with_reducible rfl
      rotate_left
      · simp only [Act.put, List.setIfInBounds_toArray, List.set_cons_zero, List.set_cons_succ]
        rfl
      refine pure_ (i := 19) (N := some 34) (v := ?_) (a' := ?_) #[true, true, true, true, true, true, true, true, true, true, true, true, true, true, true, true, true, true, true, true] rfl rfl (by kernel_rfl) (fun _ _ _ h => h) (Or.inl ⟨by rfl, ?_⟩) ?_ ?_
      rotate_left
      · intro w'
        go_simp
        with_reducible rfl
      rotate_left
      · simp only [Act.put, List.setIfInBounds_toArray, List.set_cons_zero, List.set_cons_succ]
        rfl
      refine done_ (by kernel_rfl) ?_
      have HF := Aside0.mk (blk_below HFd.out HQ5.out)
      have HS := Aside0.mk (blk_below HSd.out HQ5.out)
      have HB := Aside0.mk (below_step HBd.out HQ5.out)
      have HWO := Aside0.mk (HWd.out.below HQ5.out)
      clear HFd HMd HSd HBd HWd HQ1 HQ2 HQ3 HQ4 HQ5 HC1 HC2 HC3 HC4 HC5 hHeld
      go_upto_region 6 with (fail)
      have HFd := Aside0.mk (show q5.drew.heap[w.heap.size]? = some (.cells #[.int .i64 x.q, .slice A1 x.ls.length c1, .int .i64 x.k, .slice A3 x.cs.length c3] 38 (0, 0)) from HF.out)
      have HSd := Aside0.mk (show q5.drew.heap[bs]? = some (.cells #[.int .i64 x.q, .slice S1 x.ls.length S1', .int .i64 x.k, .slice S3 x.cs.length S3'] 38 (0, 0)) from HS.out)
      have HBd := Aside0.mk (below_drew1 HB.out)
      have HWd := Aside0.mk (HWO.out.below (below_drew1 (Below.refl q5.heap.size q5)))
      clear HF HB HWO HS
      refine start_ (n := 20) (S := fun W' => (W'.cell? ⟨w.heap.size, 0, none⟩ = some (.int .i64 x.q) ∧ W'.cell? ⟨w.heap.size, 1, none⟩ = some (.slice A1 x.ls.length c1) ∧ W'.cell? ⟨w.heap.size, 2, none⟩ = some (.int .i64 x.k) ∧ W'.cell? ⟨w.heap.size, 3, none⟩ = some (.slice A3 x.cs.length c3)) ∧ (W'.cell? ⟨bs, 0, none⟩ = some (.int .i64 x.q) ∧ W'.cell? ⟨bs, 1, none⟩ = some (.slice S1 x.ls.length S1') ∧ W'.cell? ⟨bs, 2, none⟩ = some (.int .i64 x.k) ∧ W'.cell? ⟨bs, 3, none⟩ = some (.slice S3 x.cs.length S3'))) (ds := []) #[false, false, false, false, false, false, false, false, false, false, false, false, false, false, false, false, false, false, false, false] (by kernel_rfl) rfl rfl ⟨⟨(blk_cell HFd.out 0).trans rfl, (blk_cell HFd.out 1).trans rfl, (blk_cell HFd.out 2).trans rfl, (blk_cell HFd.out 3).trans rfl⟩, ⟨(blk_cell HSd.out 0).trans rfl, (blk_cell HSd.out 1).trans rfl, (blk_cell HSd.out 2).trans rfl, (blk_cell HSd.out 3).trans rfl⟩⟩ (fun hHeld => ?_)
      generalize q5.drew = W at HFd HSd HBd HWd hHeld ⊢
      have HC1 := Aside0.mk (own_calls_ x _ W (HX.out.below HBd.out) HZ.out)
      refine take_ (i := 0) (N := some 35) (v := ?_) (a' := ?_) #[true, false, false, false, false, false, false, false, false, false, false, false, false, false, false, false, false, false, false, false] rfl rfl (by kernel_rfl) (fun _ _ _ h => h) (Or.inl ⟨by rfl, ?_⟩) hHeld ?_ ?_
      rotate_left
      · rintro w' ⟨⟨s0_0, s0_1, s0_2, s0_3⟩, ⟨s1_0, s1_1, s1_2, s1_3⟩⟩
        go_simp
        with_reducible rfl
      rotate_left
      · simp only [Act.put, List.setIfInBounds_toArray, List.set_cons_zero, List.set_cons_succ]
        rfl
      refine take_ (i := 2) (N := some 37) (v := ?_) (a' := ?_) #[true, false, true, false, false, false, false, false, false, false, false, false, false, false, false, false, false, false, false, false] rfl rfl (by kernel_rfl) (fun _ _ _ h => h) (Or.inl ⟨by rfl, ?_⟩) hHeld ?_ ?_
      rotate_left
      · rintro w' ⟨⟨s0_0, s0_1, s0_2, s0_3⟩, ⟨s1_0, s1_1, s1_2, s1_3⟩⟩
        go_simp
        with_reducible rfl
      rotate_left
      · simp only [Act.put, List.setIfInBounds_toArray, List.set_cons_zero, List.set_cons_succ]
        rfl
      refine one_ (i := 1) (N := some 36) #[true, true, true, false, false, false, false, false, false, false, false, false, false, false, false, false, false, false, false, false] rfl rfl (by kernel_rfl) (by decide) (fun K hK => ?_)
      refine goes_ Tryd.func39 (by kernel_rfl) rfl #[.agg #[.int .i64 x.q, .slice A1 x.ls.length c1, .int .i64 x.k, .slice A3 x.cs.length c3]] (by rfl) rfl rfl (by (try simp only [List.map_toArray, List.map_cons, List.map_nil]); first | done | rfl) ?_
      refine (HC1.out).mono ?_
      rintro e q1 ⟨u1, u3, rfl, ho1, ho3, hb⟩
      obtain ⟨O1, o1, rfl⟩ := Kd.R_slice ho1
      obtain ⟨O3, o3, rfl⟩ := Kd.R_slice ho3
      have HW1 := Aside0.mk (show WrL q1 W.heap.size (.agg #[.int .i64 x.q, .slice O1 x.ls.length o1, .int .i64 x.k, .slice O3 x.cs.length o3]) x from ⟨_, _, rfl, Wr.of_R ho1, Wr.of_R ho3⟩)
      have HQ1 := Aside0.mk hb
      have HI1 := Aside0.mk (is_calls_ x x 0 0 _ _ q1 W.heap.size HW1.out (HWd.out.rd.below hb) HZ.out hb.size)
      rw [show (decide ((0 : Int) = 0) && sameL x x) = true by rw [sameL_iff.2 rfl]; rfl] at HI1
      refine ⟨_, rfl, ?_⟩
      refine hK.out _ _ ⟨⟨(blk_cell (blk_below HFd.out HQ1.out) 0).trans rfl, (blk_cell (blk_below HFd.out HQ1.out) 1).trans rfl, (blk_cell (blk_below HFd.out HQ1.out) 2).trans rfl, (blk_cell (blk_below HFd.out HQ1.out) 3).trans rfl⟩, ⟨(blk_cell (blk_below HSd.out HQ1.out) 0).trans rfl, (blk_cell (blk_below HSd.out HQ1.out) 1).trans rfl, (blk_cell (blk_below HSd.out HQ1.out) 2).trans rfl, (blk_cell (blk_below HSd.out HQ1.out) 3).trans rfl⟩⟩ (fun hHeld => ?_)
      clear hK K hb ho1 ho3
      refine norm_ (a' := ?_) ?_ ?_
      rotate_left
      · show Act.put _ (some 36) _ = _
        simp only [Act.put, List.setIfInBounds_toArray, List.set_cons_zero, List.set_cons_succ]
        rfl
      refine one_ (i := 3) (N := some 38) #[true, true, true, true, false, false, false, false, false, false, false, false, false, false, false, false, false, false, false, false] rfl rfl (by kernel_rfl) (by decide) (fun K hK => ?_)
      refine goes_ Tryd.func29 (by kernel_rfl) rfl #[.agg #[.int .i64 x.q, .slice O1 x.ls.length o1, .int .i64 x.k, .slice O3 x.cs.length o3], .int .i64 0, .agg #[.int .i64 x.q, .slice S1 x.ls.length S1', .int .i64 x.k, .slice S3 x.cs.length S3'], .int .i64 0] (by rfl) rfl rfl (by (try simp only [List.map_toArray, List.map_cons, List.map_nil]); first | done | rfl) ?_
      refine (HI1.out).mono ?_
      rintro e q2 ⟨rfl, hb, hx, _⟩
      have HQ2 := Aside0.mk (HQ1.out.trans hb)
      have HF2 := Aside0.mk (hx _ _ (blk_below HFd.out HQ1.out))
      have HS2 := Aside0.mk (hx _ _ (blk_below HSd.out HQ1.out))
      have HB2 := Aside0.mk (below_step HBd.out HQ2.out)
      have HW2 := Aside0.mk (HWd.out.below HQ2.out)
      refine ⟨_, rfl, ?_⟩
      refine hK.out _ _ ⟨⟨(blk_cell HF2.out 0).trans rfl, (blk_cell HF2.out 1).trans rfl, (blk_cell HF2.out 2).trans rfl, (blk_cell HF2.out 3).trans rfl⟩, ⟨(blk_cell HS2.out 0).trans rfl, (blk_cell HS2.out 1).trans rfl, (blk_cell HS2.out 2).trans rfl, (blk_cell HS2.out 3).trans rfl⟩⟩ (fun hHeld => ?_)
      clear hK K hb hx HI1 HW1
      refine norm_ (a' := ?_) ?_ ?_
      rotate_left
      · show Act.put _ (some 38) _ = _
        simp only [Act.put, List.setIfInBounds_toArray, List.set_cons_zero, List.set_cons_succ]
        rfl
      refine pure_ (i := 4) (N := some 39) (v := ?_) (a' := ?_) #[true, true, true, true, true, false, false, false, false, false, false, false, false, false, false, false, false, false, false, false] rfl rfl (by kernel_rfl) (fun _ _ _ h => h) (Or.inl ⟨by rfl, ?_⟩) ?_ ?_
      rotate_left
      · intro w'
        go_simp
        with_reducible rfl
      rotate_left
      · simp only [Act.put, List.setIfInBounds_toArray, List.set_cons_zero, List.set_cons_succ]
        rfl
      refine take_ (i := 5) (N := some 40) (v := ?_) (a' := ?_) #[true, true, true, true, true, true, false, false, false, false, false, false, false, false, false, false, false, false, false, false] rfl rfl (by kernel_rfl) (fun _ _ _ h => h) (Or.inl ⟨by rfl, ?_⟩) hHeld ?_ ?_
      rotate_left
      · rintro w' ⟨⟨s0_0, s0_1, s0_2, s0_3⟩, ⟨s1_0, s1_1, s1_2, s1_3⟩⟩
        go_simp
        with_reducible rfl
      rotate_left
      · simp only [Act.put, List.setIfInBounds_toArray, List.set_cons_zero, List.set_cons_succ]
        rfl
      refine take_ (i := 7) (N := some 42) (v := ?_) (a' := ?_) #[true, true, true, true, true, true, false, true, false, false, false, false, false, false, false, false, false, false, false, false] rfl rfl (by kernel_rfl) (fun _ _ _ h => h) (Or.inl ⟨by rfl, ?_⟩) hHeld ?_ ?_
      rotate_left
      · rintro w' ⟨⟨s0_0, s0_1, s0_2, s0_3⟩, ⟨s1_0, s1_1, s1_2, s1_3⟩⟩
        go_simp
        with_reducible rfl
      rotate_left
      · simp only [Act.put, List.setIfInBounds_toArray, List.set_cons_zero, List.set_cons_succ]
        rfl
      refine one_ (i := 6) (N := some 41) #[true, true, true, true, true, true, true, true, false, false, false, false, false, false, false, false, false, false, false, false] rfl rfl (by kernel_rfl) (by decide) (fun K hK => ?_)
      refine goes_ Tryd.func40 (by kernel_rfl) rfl #[.agg #[.int .i64 x.q, .slice A1 x.ls.length c1, .int .i64 x.k, .slice A3 x.cs.length c3]] (by rfl) rfl rfl (by (try simp only [List.map_toArray, List.map_cons, List.map_nil]); first | done | rfl) ?_
      refine (frame_calls_ x _ q2 (HX.out.below HB2.out) HZ.out).mono ?_
      rintro e q3 ⟨P1, p1, rfl, ho1, hb⟩
      have HQ3 := Aside0.mk hb
      have HW3 := Aside0.mk (show WrL q3 q2.heap.size (.agg #[.int .i64 x.q, .slice P1 x.ls.length p1, .int .i64 x.k, .slice none 0 0]) ⟨x.q, x.ls, x.k, []⟩ from ⟨_, _, rfl, Wr.of_R ho1, Wr_nil _ _ _ _⟩)
      refine ⟨_, rfl, ?_⟩
      refine hK.out _ _ ⟨⟨(blk_cell (blk_below HF2.out HQ3.out) 0).trans rfl, (blk_cell (blk_below HF2.out HQ3.out) 1).trans rfl, (blk_cell (blk_below HF2.out HQ3.out) 2).trans rfl, (blk_cell (blk_below HF2.out HQ3.out) 3).trans rfl⟩, ⟨(blk_cell (blk_below HS2.out HQ3.out) 0).trans rfl, (blk_cell (blk_below HS2.out HQ3.out) 1).trans rfl, (blk_cell (blk_below HS2.out HQ3.out) 2).trans rfl, (blk_cell (blk_below HS2.out HQ3.out) 3).trans rfl⟩⟩ (fun hHeld => ?_)
      clear hK K hb ho1
      refine norm_ (a' := ?_) ?_ ?_
      rotate_left
      · show Act.put _ (some 41) _ = _
        simp only [Act.put, List.setIfInBounds_toArray, List.set_cons_zero, List.set_cons_succ]
        rfl
      refine one_ (i := 8) (N := some 43) #[true, true, true, true, true, true, true, true, true, false, false, false, false, false, false, false, false, false, false, false] rfl rfl (by kernel_rfl) (by decide) (fun K hK => ?_)
      refine goes_ Tryd.func41 (by kernel_rfl) rfl #[.agg #[.int .i64 x.q, .slice S1 x.ls.length S1', .int .i64 x.k, .slice S3 x.cs.length S3']] (by rfl) rfl rfl (by (try simp only [List.map_toArray, List.map_cons, List.map_nil]); first | done | rfl) ?_
      refine (refframe_calls_ x _ q3 (HW2.out.rd.below HQ3.out) HZ.out).mono ?_
      rintro e q4 ⟨R1, r1, R3, r3, rfl, ho1, hb⟩
      have HQ4 := Aside0.mk (below_step HQ3.out hb)
      have HI2 := Aside0.mk (is_calls_ ⟨x.q, x.ls, x.k, []⟩ ⟨x.q, x.ls, x.k, []⟩ 0 0 _ (.agg #[.int .i64 x.q, .slice R1 x.ls.length r1, .int .i64 x.k, .slice R3 0 r3]) q4 q2.heap.size (HW3.out.below hb) ho1 ⟨HZ.out.1, Nat.zero_le _, fun c hc => by cases hc⟩ HQ4.out.size)
      rw [show (decide ((0 : Int) = 0) && sameL _ _) = true by rw [sameL_iff.2 rfl]; rfl] at HI2
      refine ⟨_, rfl, ?_⟩
      refine hK.out _ _ ⟨⟨(blk_cell (blk_below HF2.out HQ4.out) 0).trans rfl, (blk_cell (blk_below HF2.out HQ4.out) 1).trans rfl, (blk_cell (blk_below HF2.out HQ4.out) 2).trans rfl, (blk_cell (blk_below HF2.out HQ4.out) 3).trans rfl⟩, ⟨(blk_cell (blk_below HS2.out HQ4.out) 0).trans rfl, (blk_cell (blk_below HS2.out HQ4.out) 1).trans rfl, (blk_cell (blk_below HS2.out HQ4.out) 2).trans rfl, (blk_cell (blk_below HS2.out HQ4.out) 3).trans rfl⟩⟩ (fun hHeld => ?_)
      clear hK K hb ho1
      refine norm_ (a' := ?_) ?_ ?_
      rotate_left
      · show Act.put _ (some 43) _ = _
        simp only [Act.put, List.setIfInBounds_toArray, List.set_cons_zero, List.set_cons_succ]
        rfl
      refine one_ (i := 9) (N := some 44) #[true, true, true, true, true, true, true, true, true, true, false, false, false, false, false, false, false, false, false, false] rfl rfl (by kernel_rfl) (by decide) (fun K hK => ?_)
      refine goes_ Tryd.func29 (by kernel_rfl) rfl #[.agg #[.int .i64 x.q, .slice P1 x.ls.length p1, .int .i64 x.k, .slice none 0 0], .int .i64 0, .agg #[.int .i64 x.q, .slice R1 x.ls.length r1, .int .i64 x.k, .slice R3 0 r3], .int .i64 0] (by rfl) rfl rfl (by (try simp only [List.map_toArray, List.map_cons, List.map_nil]); first | done | rfl) ?_
      refine (HI2.out).mono ?_
      rintro e q5 ⟨rfl, hb, hx, _⟩
      have HQ5 := Aside0.mk (HQ4.out.trans hb)
      have HF5 := Aside0.mk (hx _ _ (blk_below HF2.out HQ4.out))
      have HS5 := Aside0.mk (hx _ _ (blk_below HS2.out HQ4.out))
      have HB5 := Aside0.mk (below_step HB2.out HQ5.out)
      have HW5 := Aside0.mk (HW2.out.below HQ5.out)
      have HSM := Aside0.mk (refsame_calls_ x x _ _ q5 (HX.out.below HB5.out) HW5.out.rd HZ.out)
      rw [sameL_iff.2 rfl] at HSM
      refine ⟨_, rfl, ?_⟩
      refine hK.out _ _ ⟨⟨(blk_cell HF5.out 0).trans rfl, (blk_cell HF5.out 1).trans rfl, (blk_cell HF5.out 2).trans rfl, (blk_cell HF5.out 3).trans rfl⟩, ⟨(blk_cell HS5.out 0).trans rfl, (blk_cell HS5.out 1).trans rfl, (blk_cell HS5.out 2).trans rfl, (blk_cell HS5.out 3).trans rfl⟩⟩ (fun hHeld => ?_)
      clear hK K hb hx HI2 HW3
      refine norm_ (a' := ?_) ?_ ?_
      rotate_left
      · show Act.put _ (some 44) _ = _
        simp only [Act.put, List.setIfInBounds_toArray, List.set_cons_zero, List.set_cons_succ]
        rfl
      refine pure_ (i := 10) (N := some 45) (v := ?_) (a' := ?_) #[true, true, true, true, true, true, true, true, true, true, true, false, false, false, false, false, false, false, false, false] rfl rfl (by kernel_rfl) (fun _ _ _ h => h) (Or.inl ⟨by rfl, ?_⟩) ?_ ?_
      rotate_left
      · intro w'
        go_simp
        with_reducible rfl
      rotate_left
      · simp only [Act.put, List.setIfInBounds_toArray, List.set_cons_zero, List.set_cons_succ]
        rfl
      refine pure_ (i := 11) (N := some 46) (v := ?_) (a' := ?_) #[true, true, true, true, true, true, true, true, true, true, true, true, false, false, false, false, false, false, false, false] rfl rfl (by kernel_rfl) (fun _ _ _ h => h) (Or.inl ⟨by rfl, ?_⟩) ?_ ?_
      rotate_left
      · intro w'
        go_simp
        with_reducible rfl
      rotate_left
      · simp only [Act.put, List.setIfInBounds_toArray, List.set_cons_zero, List.set_cons_succ]
        rfl
      refine take_ (i := 12) (N := some 47) (v := ?_) (a' := ?_) #[true, true, true, true, true, true, true, true, true, true, true, true, true, false, false, false, false, false, false, false] rfl rfl (by kernel_rfl) (fun _ _ _ h => h) (Or.inl ⟨by rfl, ?_⟩) hHeld ?_ ?_
      rotate_left
      · rintro w' ⟨⟨s0_0, s0_1, s0_2, s0_3⟩, ⟨s1_0, s1_1, s1_2, s1_3⟩⟩
        go_simp
        with_reducible rfl
      rotate_left
      · simp only [Act.put, List.setIfInBounds_toArray, List.set_cons_zero, List.set_cons_succ]
        rfl
      refine take_ (i := 13) (N := some 48) (v := ?_) (a' := ?_) #[true, true, true, true, true, true, true, true, true, true, true, true, true, true, false, false, false, false, false, false] rfl rfl (by kernel_rfl) (fun _ _ _ h => h) (Or.inl ⟨by rfl, ?_⟩) hHeld ?_ ?_
      rotate_left
      · rintro w' ⟨⟨s0_0, s0_1, s0_2, s0_3⟩, ⟨s1_0, s1_1, s1_2, s1_3⟩⟩
        go_simp
        with_reducible rfl
      rotate_left
      · simp only [Act.put, List.setIfInBounds_toArray, List.set_cons_zero, List.set_cons_succ]
        rfl
      refine one_ (i := 14) (N := some 49) #[true, true, true, true, true, true, true, true, true, true, true, true, true, true, true, false, false, false, false, false] rfl rfl (by kernel_rfl) (by decide) (fun K hK => ?_)
      refine goes_ Tryd.func32 (by kernel_rfl) rfl #[.agg #[.int .i64 x.q, .slice A1 x.ls.length c1, .int .i64 x.k, .slice A3 x.cs.length c3], .agg #[.int .i64 x.q, .slice S1 x.ls.length S1', .int .i64 x.k, .slice S3 x.cs.length S3']] (by rfl) rfl rfl (by (try simp only [List.map_toArray, List.map_cons, List.map_nil]); first | done | rfl) ?_
      refine (HSM.out).mono ?_
      rintro e q6 ⟨rfl, hb⟩
      have HQ6 := Aside0.mk hb
      have HB6 := Aside0.mk (below_step HB5.out hb)
      refine ⟨_, rfl, ?_⟩
      refine hK.out _ _ ⟨⟨(blk_cell (blk_below HF5.out HQ6.out) 0).trans rfl, (blk_cell (blk_below HF5.out HQ6.out) 1).trans rfl, (blk_cell (blk_below HF5.out HQ6.out) 2).trans rfl, (blk_cell (blk_below HF5.out HQ6.out) 3).trans rfl⟩, ⟨(blk_cell (blk_below HS5.out HQ6.out) 0).trans rfl, (blk_cell (blk_below HS5.out HQ6.out) 1).trans rfl, (blk_cell (blk_below HS5.out HQ6.out) 2).trans rfl, (blk_cell (blk_below HS5.out HQ6.out) 3).trans rfl⟩⟩ (fun hHeld => ?_)
      clear hK K hb
      refine norm_ (a' := ?_) ?_ ?_
      rotate_left
      · show Act.put _ (some 49) _ = _
        simp only [Act.put, List.setIfInBounds_toArray, List.set_cons_zero, List.set_cons_succ]
        rfl
      refine pure_ (i := 15) (N := some 50) (v := ?_) (a' := ?_) #[true, true, true, true, true, true, true, true, true, true, true, true, true, true, true, true, false, false, false, false] rfl rfl (by kernel_rfl) (fun _ _ _ h => h) (Or.inl ⟨by rfl, ?_⟩) ?_ ?_
      rotate_left
      · intro w'
        go_simp
        with_reducible rfl
      rotate_left
      · simp only [Act.put, List.setIfInBounds_toArray, List.set_cons_zero, List.set_cons_succ]
        rfl
      refine pure_ (i := 16) (N := some 51) (v := ?_) (a' := ?_) #[true, true, true, true, true, true, true, true, true, true, true, true, true, true, true, true, true, false, false, false] rfl rfl (by kernel_rfl) (fun _ _ _ h => h) (Or.inl ⟨by rfl, ?_⟩) ?_ ?_
      rotate_left
      · intro w'
        go_simp
        with_reducible rfl
      rotate_left
      · simp only [Act.put, List.setIfInBounds_toArray, List.set_cons_zero, List.set_cons_succ]
        rfl
      refine one_ (i := 17) (N := some 52) #[true, true, true, true, true, true, true, true, true, true, true, true, true, true, true, true, true, true, false, false] rfl rfl (by kernel_rfl) (by decide) (fun K hK => ?_)
      refine goes_ Tryd.func25 (by kernel_rfl) rfl #[] (by rfl) rfl rfl (by (try simp only [List.map_toArray, List.map_cons, List.map_nil]); first | done | rfl) ?_
      refine (HAW.out _ HB6.out).mono ?_
      rintro e q7 ⟨rfl, hb⟩
      have HQ7 := Aside0.mk (below_step HQ6.out hb)
      have HP6 := Aside0.mk (below_step HB6.out hb)
      refine ⟨_, rfl, ?_⟩
      refine hK.out _ _ ⟨⟨(blk_cell (blk_below HF5.out HQ7.out) 0).trans rfl, (blk_cell (blk_below HF5.out HQ7.out) 1).trans rfl, (blk_cell (blk_below HF5.out HQ7.out) 2).trans rfl, (blk_cell (blk_below HF5.out HQ7.out) 3).trans rfl⟩, ⟨(blk_cell (blk_below HS5.out HQ7.out) 0).trans rfl, (blk_cell (blk_below HS5.out HQ7.out) 1).trans rfl, (blk_cell (blk_below HS5.out HQ7.out) 2).trans rfl, (blk_cell (blk_below HS5.out HQ7.out) 3).trans rfl⟩⟩ (fun hHeld => ?_)
      clear hK K hb
      refine norm_ (a' := ?_) ?_ ?_
      rotate_left
      · show Act.put _ (some 52) _ = _
        simp only [Act.put, List.setIfInBounds_toArray, List.set_cons_zero, List.set_cons_succ]
        rfl
      refine pure_ (i := 18) (N := some 53) (v := ?_) (a' := ?_) #[true, true, true, true, true, true, true, true, true, true, true, true, true, true, true, true, true, true, true, false] rfl rfl (by kernel_rfl) (fun _ _ _ h => h) (Or.inl ⟨by rfl, ?_⟩) ?_ ?_
      rotate_left
      · intro w'
        go_simp
        with_reducible rfl
      rotate_left
      · simp only [Act.put, List.setIfInBounds_toArray, List.set_cons_zero, List.set_cons_succ]
        rfl
      refine pure_ (i := 19) (N := some 4) (v := ?_) (a' := ?_) #[true, true, true, true, true, true, true, true, true, true, true, true, true, true, true, true, true, true, true, true] rfl rfl (by kernel_rfl) (fun _ _ _ h => h) (Or.inl ⟨by rfl, ?_⟩) ?_ ?_
      rotate_left
      · intro w'
        go_simp
        with_reducible rfl
      rotate_left
      · simp only [Act.put, List.setIfInBounds_toArray, List.set_cons_zero, List.set_cons_succ]
        rfl
      refine done_ (by kernel_rfl) ?_
      go_wp2
      go_ret
      exact ⟨rfl, by first | exact HP6.out⟩
end Go.Proofs.YtgdpknmffohhaaaDoor.Pl
