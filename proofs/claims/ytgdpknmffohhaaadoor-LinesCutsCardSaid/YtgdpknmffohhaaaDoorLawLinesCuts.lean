/- LinesCuts, walked. -/
import Derived.Test.YtgdpknmffohhaaaDoorM3
import Derived.Test.YtgdpknmffohhaaaDoorM4
namespace Go.Proofs.YtgdpknmffohhaaaDoor.Pl
open Go.RowKit Go.Lib Go.Proofs.YtgdpknmffohhaaaDoorW.PrintWords Go.Proofs.YtgdpknmffohhaaaDoorW.PrintLast Go.Proofs.YtgdpknmffohhaaaDoorW.PrintMore
set_option linter.unusedVariables false
theorem Sz_split {x : Ln} (hz : Sz x) (at_ : Int) : Sz (splitR x at_).1 ∧ Sz (splitR x at_).2.1 := by
  unfold splitR
  split
  · refine ⟨⟨hz.1, ?_, fun c hc => hz.2.2 c (List.mem_of_mem_take hc)⟩, ?_⟩
    · show (x.cs.take _).length ≤ 100000
      rw [List.length_take]
      have := hz.2.1
      omega
    · show Sz (splitB x _)
      unfold splitB
      split
      · exact ⟨hz.1, Nat.zero_le _, fun c hc => by cases hc⟩
      · refine ⟨hz.1, ?_, fun c hc => hz.2.2 c (List.mem_of_mem_drop hc)⟩
        show (x.cs.drop _).length ≤ 100000
        rw [List.length_drop]
        have := hz.2.1
        omega
  · exact ⟨Sz_zero, Sz_zero⟩
theorem longL_len {x : Ln} (h : longL x = false) : x.cs.length ≤ 20000 := by
  unfold longL at h
  rw [Bool.or_eq_false_iff] at h
  have := of_decide_eq_false h.1
  omega
theorem Sz_join {x y : Ln} (hx : Sz x) (hy : Sz y) (h1 : x.cs.length ≤ 20000) (h2 : y.cs.length ≤ 20000) : Sz (joinR x y).1 := by
  unfold joinR
  split
  · refine ⟨hx.1, ?_, fun c hc => ?_⟩
    · show (x.cs ++ y.cs).length ≤ 100000
      rw [List.length_append]
      omega
    · rcases List.mem_append.1 hc with hc | hc
      · exact hx.2.2 c hc
      · exact hy.2.2 c hc
  · exact Sz_zero
set_option maxRecDepth 100000 in
set_option maxHeartbeats 20000000 in
theorem LinesCuts_calls_ (x y : Ln) (at_ : Int) (v u : Value) (w : World) (hx : RdL w v x) (hokx : ∀ c ∈ x.cs, c.f2.size ≤ 140737488355328) (hy : RdL w u y) (hoky : ∀ c ∈ y.cs, c.f2.size ≤ 140737488355328) (hat_ : (Lit.int .i64 at_).wf = true) (hG : Gl_ w) :
    Calls Tryd.prog 4 #[v, u, .int .i64 at_] w fun e w' => e = .returned (.bool true) ∧ Below w.heap.size w w' := by
  have hu38 := Tryd.underlying38
  clear hat_
  have HLX := Aside0.mk (fun W (hW : Below w.heap.size w W) => long06_calls_ x v W (hx.below hW) hokx)
  have HLY := Aside0.mk (fun W (hW : Below w.heap.size w W) => long06_calls_ y u W (hy.below hW) hoky)
  obtain ⟨_, _, rfl, ⟨A1, c1, rfl, h1, hc1⟩, ⟨A3, c3, rfl, h3, hc3⟩⟩ := hx
  obtain ⟨_, _, rfl, ⟨E1, f1, rfl, g1, gc1⟩, ⟨E3, f3, rfl, g3, gc3⟩⟩ := hy
  have HX := Aside0.mk (show RdL w (.agg #[.int .i64 x.q, .slice A1 x.ls.length c1, .int .i64 x.k, .slice A3 x.cs.length c3]) x from ⟨_, _, rfl, ⟨A1, c1, rfl, h1, hc1⟩, ⟨A3, c3, rfl, h3, hc3⟩⟩)
  have HY := Aside0.mk (show RdL w (.agg #[.int .i64 y.q, .slice E1 y.ls.length f1, .int .i64 y.k, .slice E3 y.cs.length f3]) y from ⟨_, _, rfl, ⟨E1, f1, rfl, g1, gc1⟩, ⟨E3, f3, rfl, g3, gc3⟩⟩)
  have HAW := Aside0.mk (fun W (hW : Below w.heap.size w W) => awake06_calls_ W (hG.below hW))
  have HG := Aside0.mk hG
  obtain ⟨F0, M0, FB⟩ := two_boxes_ w (.cells #[.int .i64 x.q, .slice A1 x.ls.length c1, .int .i64 x.k, .slice A3 x.cs.length c3] 38) (.cells #[.int .i64 y.q, .slice E1 y.ls.length f1, .int .i64 y.k, .slice E3 y.cs.length f3] 38)
  clear h1 h3 hc1 hc3 g1 g3 gc1 gc3 hokx hoky hG
  go_enter Tryd.func4, Tryd.ntmps4
  go_upto_region 1 with (fail)
  generalize (w.alloc (.cells #[.int .i64 x.q, .slice A1 x.ls.length c1, .int .i64 x.k, .slice A3 x.cs.length c3] 38)).alloc (.cells #[.int .i64 y.q, .slice E1 y.ls.length f1, .int .i64 y.k, .slice E3 y.cs.length f3] 38) = W0 at F0 M0 FB ⊢
  have p0 : W0.cell? ⟨w.heap.size, 0, none⟩ = some (.int .i64 x.q) := (blk_cell F0 0).trans rfl
  have p1 : W0.cell? ⟨w.heap.size, 1, none⟩ = some (.slice A1 x.ls.length c1) := (blk_cell F0 1).trans rfl
  have p2 : W0.cell? ⟨w.heap.size, 2, none⟩ = some (.int .i64 x.k) := (blk_cell F0 2).trans rfl
  have p3 : W0.cell? ⟨w.heap.size, 3, none⟩ = some (.slice A3 x.cs.length c3) := (blk_cell F0 3).trans rfl
  have q0 : W0.cell? ⟨w.heap.size + 1, 0, none⟩ = some (.int .i64 y.q) := (blk_cell M0 0).trans rfl
  have q1 : W0.cell? ⟨w.heap.size + 1, 1, none⟩ = some (.slice E1 y.ls.length f1) := (blk_cell M0 1).trans rfl
  have q2 : W0.cell? ⟨w.heap.size + 1, 2, none⟩ = some (.int .i64 y.k) := (blk_cell M0 2).trans rfl
  have q3 : W0.cell? ⟨w.heap.size + 1, 3, none⟩ = some (.slice E3 y.cs.length f3) := (blk_cell M0 3).trans rfl
  have HF0 := Aside0.mk F0
  have HM0 := Aside0.mk M0
  have HFB := Aside0.mk FB
  clear F0 M0 FB
  cases hlx : longL x with
  | true =>
    rw [hlx] at HLX
    go_wp2_with (first | (go_at_call 24; refine (HLX.out _ HFB.out).mono ?_; rintro e w1 ⟨rfl, hb⟩; have HB1 := Aside0.mk (below_step HFB.out hb); have fb := blk_below HF0.out hb; have fm := blk_below HM0.out hb; have r0 : w1.cell? ⟨w.heap.size, 0, none⟩ = some (.int .i64 x.q) := (blk_cell fb 0).trans rfl; have r1 : w1.cell? ⟨w.heap.size, 1, none⟩ = some (.slice A1 x.ls.length c1) := (blk_cell fb 1).trans rfl; have r2 : w1.cell? ⟨w.heap.size, 2, none⟩ = some (.int .i64 x.k) := (blk_cell fb 2).trans rfl; have r3 : w1.cell? ⟨w.heap.size, 3, none⟩ = some (.slice A3 x.cs.length c3) := (blk_cell fb 3).trans rfl; have t0 : w1.cell? ⟨w.heap.size + 1, 0, none⟩ = some (.int .i64 y.q) := (blk_cell fm 0).trans rfl; have t1 : w1.cell? ⟨w.heap.size + 1, 1, none⟩ = some (.slice E1 y.ls.length f1) := (blk_cell fm 1).trans rfl; have t2 : w1.cell? ⟨w.heap.size + 1, 2, none⟩ = some (.int .i64 y.k) := (blk_cell fm 2).trans rfl; have t3 : w1.cell? ⟨w.heap.size + 1, 3, none⟩ = some (.slice E3 y.cs.length f3) := (blk_cell fm 3).trans rfl; have HF1 := Aside0.mk fb; have HM1 := Aside0.mk fm; clear hb fb fm) | (go_at_call 25; refine (HAW.out _ HB1.out).mono ?_; rintro e wz ⟨rfl, hb⟩; have HBZ := Aside0.mk hb; clear hb))
    go_ret
    exact ⟨rfl, below_step HB1.out HBZ.out⟩
  | false =>
    rw [hlx] at HLX
    have HZ := Aside0.mk (longL_Sz hlx)
    have HLN := Aside0.mk (longL_len hlx)
    clear hlx
    cases hly : longL y with
    | true =>
      rw [hly] at HLY
      go_wp2_with (first | (have h_ := HB1; clear h_; go_at_call 24; refine (HLY.out _ HB1.out).mono ?_; rintro e w2 ⟨rfl, hb⟩; have HB2 := Aside0.mk (below_step HB1.out hb); have HF2 := Aside0.mk (blk_below HF1.out hb); have HM2 := Aside0.mk (blk_below HM1.out hb); clear hb) | (go_at_call 24; refine (HLX.out _ HFB.out).mono ?_; rintro e w1 ⟨rfl, hb⟩; have HB1 := Aside0.mk (below_step HFB.out hb); have fb := blk_below HF0.out hb; have fm := blk_below HM0.out hb; have r0 : w1.cell? ⟨w.heap.size, 0, none⟩ = some (.int .i64 x.q) := (blk_cell fb 0).trans rfl; have r1 : w1.cell? ⟨w.heap.size, 1, none⟩ = some (.slice A1 x.ls.length c1) := (blk_cell fb 1).trans rfl; have r2 : w1.cell? ⟨w.heap.size, 2, none⟩ = some (.int .i64 x.k) := (blk_cell fb 2).trans rfl; have r3 : w1.cell? ⟨w.heap.size, 3, none⟩ = some (.slice A3 x.cs.length c3) := (blk_cell fb 3).trans rfl; have t0 : w1.cell? ⟨w.heap.size + 1, 0, none⟩ = some (.int .i64 y.q) := (blk_cell fm 0).trans rfl; have t1 : w1.cell? ⟨w.heap.size + 1, 1, none⟩ = some (.slice E1 y.ls.length f1) := (blk_cell fm 1).trans rfl; have t2 : w1.cell? ⟨w.heap.size + 1, 2, none⟩ = some (.int .i64 y.k) := (blk_cell fm 2).trans rfl; have t3 : w1.cell? ⟨w.heap.size + 1, 3, none⟩ = some (.slice E3 y.cs.length f3) := (blk_cell fm 3).trans rfl; have HF1 := Aside0.mk fb; have HM1 := Aside0.mk fm; clear hb fb fm) | (go_at_call 25; refine (HAW.out _ HB2.out).mono ?_; rintro e wz ⟨rfl, hb⟩; have HBZ := Aside0.mk hb; clear hb))
      go_ret
      exact ⟨rfl, below_step HB2.out HBZ.out⟩
    | false =>
      rw [hly] at HLY
      have HZY := Aside0.mk (longL_Sz hly)
      have HSJ := Aside0.mk (Sz_join HZ.out HZY.out HLN.out (longL_len hly))
      clear hly
      go_upto_region 3 with (first | (have h_ := HB1; clear h_; go_at_call 24; refine (HLY.out _ HB1.out).mono ?_; rintro e w2 ⟨rfl, hb⟩; have HB2 := Aside0.mk (below_step HB1.out hb); have HF2 := Aside0.mk (blk_below HF1.out hb); have HM2 := Aside0.mk (blk_below HM1.out hb); clear hb) | (go_at_call 24; refine (HLX.out _ HFB.out).mono ?_; rintro e w1 ⟨rfl, hb⟩; have HB1 := Aside0.mk (below_step HFB.out hb); have fb := blk_below HF0.out hb; have fm := blk_below HM0.out hb; have r0 : w1.cell? ⟨w.heap.size, 0, none⟩ = some (.int .i64 x.q) := (blk_cell fb 0).trans rfl; have r1 : w1.cell? ⟨w.heap.size, 1, none⟩ = some (.slice A1 x.ls.length c1) := (blk_cell fb 1).trans rfl; have r2 : w1.cell? ⟨w.heap.size, 2, none⟩ = some (.int .i64 x.k) := (blk_cell fb 2).trans rfl; have r3 : w1.cell? ⟨w.heap.size, 3, none⟩ = some (.slice A3 x.cs.length c3) := (blk_cell fb 3).trans rfl; have t0 : w1.cell? ⟨w.heap.size + 1, 0, none⟩ = some (.int .i64 y.q) := (blk_cell fm 0).trans rfl; have t1 : w1.cell? ⟨w.heap.size + 1, 1, none⟩ = some (.slice E1 y.ls.length f1) := (blk_cell fm 1).trans rfl; have t2 : w1.cell? ⟨w.heap.size + 1, 2, none⟩ = some (.int .i64 y.k) := (blk_cell fm 2).trans rfl; have t3 : w1.cell? ⟨w.heap.size + 1, 3, none⟩ = some (.slice E3 y.cs.length f3) := (blk_cell fm 3).trans rfl; have HF1 := Aside0.mk fb; have HM1 := Aside0.mk fm; clear hb fb fm))
      have HFd := Aside0.mk (show w2.drew.heap[w.heap.size]? = some (.cells #[.int .i64 x.q, .slice A1 x.ls.length c1, .int .i64 x.k, .slice A3 x.cs.length c3] 38 (0, 0)) from HF2.out)
      have HMd := Aside0.mk (show w2.drew.heap[w.heap.size + 1]? = some (.cells #[.int .i64 y.q, .slice E1 y.ls.length f1, .int .i64 y.k, .slice E3 y.cs.length f3] 38 (0, 0)) from HM2.out)
      have HBd := Aside0.mk (below_drew1 HB2.out)
      clear HLX HLY HB1 HB2 HF0 HF1 HF2 HM0 HM1 HM2 HFB HLN p0 p1 p2 p3 q0 q1 q2 q3 r0 r1 r2 r3 t0 t1 t2 t3
      refine start_ (n := 8) (S := fun W' => (W'.cell? ⟨w.heap.size, 0, none⟩ = some (.int .i64 x.q) ∧ W'.cell? ⟨w.heap.size, 1, none⟩ = some (.slice A1 x.ls.length c1) ∧ W'.cell? ⟨w.heap.size, 2, none⟩ = some (.int .i64 x.k) ∧ W'.cell? ⟨w.heap.size, 3, none⟩ = some (.slice A3 x.cs.length c3)) ∧ (W'.cell? ⟨w.heap.size + 1, 0, none⟩ = some (.int .i64 y.q) ∧ W'.cell? ⟨w.heap.size + 1, 1, none⟩ = some (.slice E1 y.ls.length f1) ∧ W'.cell? ⟨w.heap.size + 1, 2, none⟩ = some (.int .i64 y.k) ∧ W'.cell? ⟨w.heap.size + 1, 3, none⟩ = some (.slice E3 y.cs.length f3))) (ds := [6, 7]) #[false, false, false, false, false, false, false, false] (by kernel_rfl) rfl rfl ⟨⟨(blk_cell HFd.out 0).trans rfl, (blk_cell HFd.out 1).trans rfl, (blk_cell HFd.out 2).trans rfl, (blk_cell HFd.out 3).trans rfl⟩, ⟨(blk_cell HMd.out 0).trans rfl, (blk_cell HMd.out 1).trans rfl, (blk_cell HMd.out 2).trans rfl, (blk_cell HMd.out 3).trans rfl⟩⟩ (fun hHeld => ?_)
      generalize w2.drew = wd at HFd HMd HBd hHeld ⊢
      have HC1 := Aside0.mk (fun W' (hW : Below wd.heap.size wd W') => refownW_calls_ x _ W' (HX.out.below (below_step HBd.out hW)) HZ.out)
      have HC2 := Aside0.mk (fun W' (hW : Below wd.heap.size wd W') => refownW_calls_ y _ W' (HY.out.below (below_step HBd.out hW)) HZY.out)
      refine take_ (i := 0) (N := some 26) (v := ?_) (a' := ?_) #[true, false, false, false, false, false, false, false] rfl rfl (by kernel_rfl) (fun _ _ _ h => h) (Or.inl ⟨by rfl, ?_⟩) hHeld ?_ ?_
      rotate_left
      · rintro w' ⟨⟨s0_0, s0_1, s0_2, s0_3⟩, ⟨s1_0, s1_1, s1_2, s1_3⟩⟩
        go_simp
        with_reducible rfl
      rotate_left
      · simp only [Act.put, List.setIfInBounds_toArray, List.set_cons_zero, List.set_cons_succ]
        rfl
      refine take_ (i := 2) (N := some 28) (v := ?_) (a' := ?_) #[true, false, true, false, false, false, false, false] rfl rfl (by kernel_rfl) (fun _ _ _ h => h) (Or.inl ⟨by rfl, ?_⟩) hHeld ?_ ?_
      rotate_left
      · rintro w' ⟨⟨s0_0, s0_1, s0_2, s0_3⟩, ⟨s1_0, s1_1, s1_2, s1_3⟩⟩
        go_simp
        with_reducible rfl
      rotate_left
      · simp only [Act.put, List.setIfInBounds_toArray, List.set_cons_zero, List.set_cons_succ]
        rfl
      refine join_ (σ := TwoS) 2 #[true, true, true, true, true, true, false, false] (fun s => [(27, .agg #[.int .i64 x.q, .slice s.B1 x.ls.length s.d1, .int .i64 x.k, .slice s.B3 x.cs.length s.d3]), (29, .agg #[.int .i64 y.q, .slice s.D1 y.ls.length s.e1, .int .i64 y.k, .slice s.D3 y.cs.length s.e3]), (7, .pointer (some ⟨s.p, 0, none⟩)), (8, .pointer (some ⟨s.q, 0, none⟩))]) (fun s W' => WrL W' wd.heap.size (.agg #[.int .i64 x.q, .slice s.B1 x.ls.length s.d1, .int .i64 x.k, .slice s.B3 x.cs.length s.d3]) (x) ∧ WrL W' wd.heap.size (.agg #[.int .i64 y.q, .slice s.D1 y.ls.length s.e1, .int .i64 y.k, .slice s.D3 y.cs.length s.e3]) (y) ∧ W'.heap[s.p]? = some (.cells #[.int .i64 0, .slice none 0 0, .int .i64 0, .slice none 0 0] 38 (0, 0)) ∧ W'.heap[s.q]? = some (.cells #[.int .i64 0, .slice none 0 0, .int .i64 0, .slice none 0 0] 38 (0, 0)) ∧ s.p ≠ s.q ∧ wd.heap.size ≤ s.p ∧ wd.heap.size ≤ s.q ∧ Below wd.heap.size wd W') ?_ (fun hcont => ?_)
      rotate_left
      · clear hHeld
        refine three_ (i := 1) (Ni := some 27) (j := 4) (Nj := some 7) (k := 5) (Nk := some 8) #[true, true, true, false, false, false, false, false] #[true, false, true, false, true, false, false, false] #[true, false, true, false, false, true, false, false] rfl rfl rfl rfl rfl rfl (by kernel_rfl) (by decide) (by decide) (by decide) (fun K hK => ?_) (fun K hK => ?_) (fun K hK => ?_)
        · refine goes_ Tryd.func26 (by kernel_rfl) rfl #[.agg #[.int .i64 x.q, .slice A1 x.ls.length c1, .int .i64 x.k, .slice A3 x.cs.length c3]] (by rfl) rfl rfl (by (try simp only [List.map_toArray, List.map_cons, List.map_nil]); first | done | rfl) ?_
          refine (HC1.out _ (Below.refl _ wd)).mono ?_
          rintro e w11 ⟨B1, d1, B3, d3, rfl, hw, hb⟩
          have HWX := Aside0.mk hw
          clear hw
          have HB1 := Aside0.mk hb
          refine ⟨_, rfl, ?_⟩
          refine hK.out _ _ ⟨⟨(blk_cell (blk_below HFd.out HB1.out) 0).trans rfl, (blk_cell (blk_below HFd.out HB1.out) 1).trans rfl, (blk_cell (blk_below HFd.out HB1.out) 2).trans rfl, (blk_cell (blk_below HFd.out HB1.out) 3).trans rfl⟩, ⟨(blk_cell (blk_below HMd.out HB1.out) 0).trans rfl, (blk_cell (blk_below HMd.out HB1.out) 1).trans rfl, (blk_cell (blk_below HMd.out HB1.out) 2).trans rfl, (blk_cell (blk_below HMd.out HB1.out) 3).trans rfl⟩⟩ (fun hHeld => ?_)
          clear hK K hb hHeld
          refine norm_ (a' := ?_) ?_ ?_
          rotate_left
          · show Act.put _ (some 27) _ = _
            simp only [Act.put, List.setIfInBounds_toArray, List.set_cons_zero, List.set_cons_succ]
            rfl
          refine three_ (i := 3) (Ni := some 29) (j := 4) (Nj := some 7) (k := 5) (Nk := some 8) #[true, true, true, true, false, false, false, false] #[true, true, true, false, true, false, false, false] #[true, true, true, false, false, true, false, false] rfl rfl rfl rfl rfl rfl (by kernel_rfl) (by decide) (by decide) (by decide) (fun K hK => ?_) (fun K hK => ?_) (fun K hK => ?_)
          · refine goes_ Tryd.func26 (by kernel_rfl) rfl #[.agg #[.int .i64 y.q, .slice E1 y.ls.length f1, .int .i64 y.k, .slice E3 y.cs.length f3]] (by rfl) rfl rfl (by (try simp only [List.map_toArray, List.map_cons, List.map_nil]); first | done | rfl) ?_
            refine (HC2.out _ HB1.out).mono ?_
            rintro e w12 ⟨D1, e1, D3, e3, rfl, hw, hb⟩
            have HWY := Aside0.mk hw
            clear hw
            have HB2 := Aside0.mk hb
            refine ⟨_, rfl, ?_⟩
            refine hK.out _ _ ⟨⟨(blk_cell (blk_below (blk_below HFd.out HB1.out) HB2.out) 0).trans rfl, (blk_cell (blk_below (blk_below HFd.out HB1.out) HB2.out) 1).trans rfl, (blk_cell (blk_below (blk_below HFd.out HB1.out) HB2.out) 2).trans rfl, (blk_cell (blk_below (blk_below HFd.out HB1.out) HB2.out) 3).trans rfl⟩, ⟨(blk_cell (blk_below (blk_below HMd.out HB1.out) HB2.out) 0).trans rfl, (blk_cell (blk_below (blk_below HMd.out HB1.out) HB2.out) 1).trans rfl, (blk_cell (blk_below (blk_below HMd.out HB1.out) HB2.out) 2).trans rfl, (blk_cell (blk_below (blk_below HMd.out HB1.out) HB2.out) 3).trans rfl⟩⟩ (fun hHeld => ?_)
            clear hK K hb hHeld
            refine norm_ (a' := ?_) ?_ ?_
            rotate_left
            · show Act.put _ (some 29) _ = _
              simp only [Act.put, List.setIfInBounds_toArray, List.set_cons_zero, List.set_cons_succ]
              rfl
            refine two_ (i := 4) (Ni := some 7) (j := 5) (Nj := some 8) #[true, true, true, true, true, false, false, false] #[true, true, true, true, false, true, false, false] rfl rfl rfl rfl (by kernel_rfl) (by decide) (by decide) (fun K hK => ?_) (fun K hK => ?_)
            · refine box_step ?hg (N := 7) ?hd (cs := #[.int .i64 0, .slice none 0 0, .int .i64 0, .slice none 0 0]) (t := 38) ?hr ?_; (case hd => rfl); (case hg => rfl); (case hr => first | (go_simp; done) | (go_simp; rfl))
              intro g4 hg4 w13 hbox hb
              have HX4 := Aside0.mk hbox
              clear hbox
              have HB3 := Aside0.mk hb
              refine hK.out _ _ ⟨⟨(blk_cell (blk_below (blk_below (blk_below HFd.out HB1.out) HB2.out) HB3.out) 0).trans rfl, (blk_cell (blk_below (blk_below (blk_below HFd.out HB1.out) HB2.out) HB3.out) 1).trans rfl, (blk_cell (blk_below (blk_below (blk_below HFd.out HB1.out) HB2.out) HB3.out) 2).trans rfl, (blk_cell (blk_below (blk_below (blk_below HFd.out HB1.out) HB2.out) HB3.out) 3).trans rfl⟩, ⟨(blk_cell (blk_below (blk_below (blk_below HMd.out HB1.out) HB2.out) HB3.out) 0).trans rfl, (blk_cell (blk_below (blk_below (blk_below HMd.out HB1.out) HB2.out) HB3.out) 1).trans rfl, (blk_cell (blk_below (blk_below (blk_below HMd.out HB1.out) HB2.out) HB3.out) 2).trans rfl, (blk_cell (blk_below (blk_below (blk_below HMd.out HB1.out) HB2.out) HB3.out) 3).trans rfl⟩⟩ (fun hHeld => ?_)
              clear hK K hb hHeld
              refine norm_ (a' := ?_) ?_ ?_
              rotate_left
              · show Act.put _ (some 7) _ = _
                simp only [Act.put, List.setIfInBounds_toArray, List.set_cons_zero, List.set_cons_succ]
                rfl
              refine one_ (i := 5) (N := some 8) #[true, true, true, true, true, true, false, false] rfl rfl (by kernel_rfl) (by decide) (fun K hK => ?_)
              refine box_step ?hg (N := 8) ?hd (cs := #[.int .i64 0, .slice none 0 0, .int .i64 0, .slice none 0 0]) (t := 38) ?hr ?_; (case hd => rfl); (case hg => rfl); (case hr => first | (go_simp; done) | (go_simp; rfl))
              intro g5 hg5 w14 hbox hb
              have HX5 := Aside0.mk hbox
              clear hbox
              have HB4 := Aside0.mk hb
              refine hK.out _ _ ⟨⟨(blk_cell (blk_below (blk_below (blk_below (blk_below HFd.out HB1.out) HB2.out) HB3.out) HB4.out) 0).trans rfl, (blk_cell (blk_below (blk_below (blk_below (blk_below HFd.out HB1.out) HB2.out) HB3.out) HB4.out) 1).trans rfl, (blk_cell (blk_below (blk_below (blk_below (blk_below HFd.out HB1.out) HB2.out) HB3.out) HB4.out) 2).trans rfl, (blk_cell (blk_below (blk_below (blk_below (blk_below HFd.out HB1.out) HB2.out) HB3.out) HB4.out) 3).trans rfl⟩, ⟨(blk_cell (blk_below (blk_below (blk_below (blk_below HMd.out HB1.out) HB2.out) HB3.out) HB4.out) 0).trans rfl, (blk_cell (blk_below (blk_below (blk_below (blk_below HMd.out HB1.out) HB2.out) HB3.out) HB4.out) 1).trans rfl, (blk_cell (blk_below (blk_below (blk_below (blk_below HMd.out HB1.out) HB2.out) HB3.out) HB4.out) 2).trans rfl, (blk_cell (blk_below (blk_below (blk_below (blk_below HMd.out HB1.out) HB2.out) HB3.out) HB4.out) 3).trans rfl⟩⟩ (fun hHeld => ?_)
              clear hK K hb hHeld
              refine norm_ (a' := ?_) ?_ ?_
              rotate_left
              · show Act.put _ (some 8) _ = _
                simp only [Act.put, List.setIfInBounds_toArray, List.set_cons_zero, List.set_cons_succ]
                rfl
              have z1 := HB1.out.size
              have z2 := HB2.out.size
              have z3 := HB3.out.size
              have z4 := HB4.out.size
              have y4 := blk_lt HX4.out
              have y5 := blk_lt HX5.out
              exact hcont ⟨B1, d1, B3, d3, D1, e1, D3, e3, g4, g5⟩ _ ⟨(((HWX.out.below HB2.out).below HB3.out).below HB4.out).lower (below_size (Below.refl _ wd)), ((HWY.out.below HB3.out).below HB4.out).lower (below_size HB1.out), (blk_below HX4.out HB4.out), HX5.out, (show g4 ≠ g5 by omega), (show wd.heap.size ≤ g4 by omega), (show wd.heap.size ≤ g5 by omega), (below_step (below_step (below_step HB1.out HB2.out) HB3.out) HB4.out)⟩
            · refine box_step ?hg (N := 8) ?hd (cs := #[.int .i64 0, .slice none 0 0, .int .i64 0, .slice none 0 0]) (t := 38) ?hr ?_; (case hd => rfl); (case hg => rfl); (case hr => first | (go_simp; done) | (go_simp; rfl))
              intro g5 hg5 w13 hbox hb
              have HX5 := Aside0.mk hbox
              clear hbox
              have HB3 := Aside0.mk hb
              refine hK.out _ _ ⟨⟨(blk_cell (blk_below (blk_below (blk_below HFd.out HB1.out) HB2.out) HB3.out) 0).trans rfl, (blk_cell (blk_below (blk_below (blk_below HFd.out HB1.out) HB2.out) HB3.out) 1).trans rfl, (blk_cell (blk_below (blk_below (blk_below HFd.out HB1.out) HB2.out) HB3.out) 2).trans rfl, (blk_cell (blk_below (blk_below (blk_below HFd.out HB1.out) HB2.out) HB3.out) 3).trans rfl⟩, ⟨(blk_cell (blk_below (blk_below (blk_below HMd.out HB1.out) HB2.out) HB3.out) 0).trans rfl, (blk_cell (blk_below (blk_below (blk_below HMd.out HB1.out) HB2.out) HB3.out) 1).trans rfl, (blk_cell (blk_below (blk_below (blk_below HMd.out HB1.out) HB2.out) HB3.out) 2).trans rfl, (blk_cell (blk_below (blk_below (blk_below HMd.out HB1.out) HB2.out) HB3.out) 3).trans rfl⟩⟩ (fun hHeld => ?_)
              clear hK K hb hHeld
              refine norm_ (a' := ?_) ?_ ?_
              rotate_left
              · show Act.put _ (some 8) _ = _
                simp only [Act.put, List.setIfInBounds_toArray, List.set_cons_zero, List.set_cons_succ]
                rfl
              refine one_ (i := 4) (N := some 7) #[true, true, true, true, true, true, false, false] rfl rfl (by kernel_rfl) (by decide) (fun K hK => ?_)
              refine box_step ?hg (N := 7) ?hd (cs := #[.int .i64 0, .slice none 0 0, .int .i64 0, .slice none 0 0]) (t := 38) ?hr ?_; (case hd => rfl); (case hg => rfl); (case hr => first | (go_simp; done) | (go_simp; rfl))
              intro g4 hg4 w14 hbox hb
              have HX4 := Aside0.mk hbox
              clear hbox
              have HB4 := Aside0.mk hb
              refine hK.out _ _ ⟨⟨(blk_cell (blk_below (blk_below (blk_below (blk_below HFd.out HB1.out) HB2.out) HB3.out) HB4.out) 0).trans rfl, (blk_cell (blk_below (blk_below (blk_below (blk_below HFd.out HB1.out) HB2.out) HB3.out) HB4.out) 1).trans rfl, (blk_cell (blk_below (blk_below (blk_below (blk_below HFd.out HB1.out) HB2.out) HB3.out) HB4.out) 2).trans rfl, (blk_cell (blk_below (blk_below (blk_below (blk_below HFd.out HB1.out) HB2.out) HB3.out) HB4.out) 3).trans rfl⟩, ⟨(blk_cell (blk_below (blk_below (blk_below (blk_below HMd.out HB1.out) HB2.out) HB3.out) HB4.out) 0).trans rfl, (blk_cell (blk_below (blk_below (blk_below (blk_below HMd.out HB1.out) HB2.out) HB3.out) HB4.out) 1).trans rfl, (blk_cell (blk_below (blk_below (blk_below (blk_below HMd.out HB1.out) HB2.out) HB3.out) HB4.out) 2).trans rfl, (blk_cell (blk_below (blk_below (blk_below (blk_below HMd.out HB1.out) HB2.out) HB3.out) HB4.out) 3).trans rfl⟩⟩ (fun hHeld => ?_)
              clear hK K hb hHeld
              refine norm_ (a' := ?_) ?_ ?_
              rotate_left
              · show Act.put _ (some 7) _ = _
                simp only [Act.put, List.setIfInBounds_toArray, List.set_cons_zero, List.set_cons_succ]
                rfl
              have z1 := HB1.out.size
              have z2 := HB2.out.size
              have z3 := HB3.out.size
              have z4 := HB4.out.size
              have y4 := blk_lt HX4.out
              have y5 := blk_lt HX5.out
              exact hcont ⟨B1, d1, B3, d3, D1, e1, D3, e3, g4, g5⟩ _ ⟨(((HWX.out.below HB2.out).below HB3.out).below HB4.out).lower (below_size (Below.refl _ wd)), ((HWY.out.below HB3.out).below HB4.out).lower (below_size HB1.out), HX4.out, (blk_below HX5.out HB4.out), (show g4 ≠ g5 by omega), (show wd.heap.size ≤ g4 by omega), (show wd.heap.size ≤ g5 by omega), (below_step (below_step (below_step HB1.out HB2.out) HB3.out) HB4.out)⟩
          · refine box_step ?hg (N := 7) ?hd (cs := #[.int .i64 0, .slice none 0 0, .int .i64 0, .slice none 0 0]) (t := 38) ?hr ?_; (case hd => rfl); (case hg => rfl); (case hr => first | (go_simp; done) | (go_simp; rfl))
            intro g4 hg4 w12 hbox hb
            have HX4 := Aside0.mk hbox
            clear hbox
            have HB2 := Aside0.mk hb
            refine hK.out _ _ ⟨⟨(blk_cell (blk_below (blk_below HFd.out HB1.out) HB2.out) 0).trans rfl, (blk_cell (blk_below (blk_below HFd.out HB1.out) HB2.out) 1).trans rfl, (blk_cell (blk_below (blk_below HFd.out HB1.out) HB2.out) 2).trans rfl, (blk_cell (blk_below (blk_below HFd.out HB1.out) HB2.out) 3).trans rfl⟩, ⟨(blk_cell (blk_below (blk_below HMd.out HB1.out) HB2.out) 0).trans rfl, (blk_cell (blk_below (blk_below HMd.out HB1.out) HB2.out) 1).trans rfl, (blk_cell (blk_below (blk_below HMd.out HB1.out) HB2.out) 2).trans rfl, (blk_cell (blk_below (blk_below HMd.out HB1.out) HB2.out) 3).trans rfl⟩⟩ (fun hHeld => ?_)
            clear hK K hb hHeld
            refine norm_ (a' := ?_) ?_ ?_
            rotate_left
            · show Act.put _ (some 7) _ = _
              simp only [Act.put, List.setIfInBounds_toArray, List.set_cons_zero, List.set_cons_succ]
              rfl
            refine two_ (i := 3) (Ni := some 29) (j := 5) (Nj := some 8) #[true, true, true, true, true, false, false, false] #[true, true, true, false, true, true, false, false] rfl rfl rfl rfl (by kernel_rfl) (by decide) (by decide) (fun K hK => ?_) (fun K hK => ?_)
            · refine goes_ Tryd.func26 (by kernel_rfl) rfl #[.agg #[.int .i64 y.q, .slice E1 y.ls.length f1, .int .i64 y.k, .slice E3 y.cs.length f3]] (by rfl) rfl rfl (by (try simp only [List.map_toArray, List.map_cons, List.map_nil]); first | done | rfl) ?_
              refine (HC2.out _ (below_step HB1.out HB2.out)).mono ?_
              rintro e w13 ⟨D1, e1, D3, e3, rfl, hw, hb⟩
              have HWY := Aside0.mk hw
              clear hw
              have HB3 := Aside0.mk hb
              refine ⟨_, rfl, ?_⟩
              refine hK.out _ _ ⟨⟨(blk_cell (blk_below (blk_below (blk_below HFd.out HB1.out) HB2.out) HB3.out) 0).trans rfl, (blk_cell (blk_below (blk_below (blk_below HFd.out HB1.out) HB2.out) HB3.out) 1).trans rfl, (blk_cell (blk_below (blk_below (blk_below HFd.out HB1.out) HB2.out) HB3.out) 2).trans rfl, (blk_cell (blk_below (blk_below (blk_below HFd.out HB1.out) HB2.out) HB3.out) 3).trans rfl⟩, ⟨(blk_cell (blk_below (blk_below (blk_below HMd.out HB1.out) HB2.out) HB3.out) 0).trans rfl, (blk_cell (blk_below (blk_below (blk_below HMd.out HB1.out) HB2.out) HB3.out) 1).trans rfl, (blk_cell (blk_below (blk_below (blk_below HMd.out HB1.out) HB2.out) HB3.out) 2).trans rfl, (blk_cell (blk_below (blk_below (blk_below HMd.out HB1.out) HB2.out) HB3.out) 3).trans rfl⟩⟩ (fun hHeld => ?_)
              clear hK K hb hHeld
              refine norm_ (a' := ?_) ?_ ?_
              rotate_left
              · show Act.put _ (some 29) _ = _
                simp only [Act.put, List.setIfInBounds_toArray, List.set_cons_zero, List.set_cons_succ]
                rfl
              refine one_ (i := 5) (N := some 8) #[true, true, true, true, true, true, false, false] rfl rfl (by kernel_rfl) (by decide) (fun K hK => ?_)
              refine box_step ?hg (N := 8) ?hd (cs := #[.int .i64 0, .slice none 0 0, .int .i64 0, .slice none 0 0]) (t := 38) ?hr ?_; (case hd => rfl); (case hg => rfl); (case hr => first | (go_simp; done) | (go_simp; rfl))
              intro g5 hg5 w14 hbox hb
              have HX5 := Aside0.mk hbox
              clear hbox
              have HB4 := Aside0.mk hb
              refine hK.out _ _ ⟨⟨(blk_cell (blk_below (blk_below (blk_below (blk_below HFd.out HB1.out) HB2.out) HB3.out) HB4.out) 0).trans rfl, (blk_cell (blk_below (blk_below (blk_below (blk_below HFd.out HB1.out) HB2.out) HB3.out) HB4.out) 1).trans rfl, (blk_cell (blk_below (blk_below (blk_below (blk_below HFd.out HB1.out) HB2.out) HB3.out) HB4.out) 2).trans rfl, (blk_cell (blk_below (blk_below (blk_below (blk_below HFd.out HB1.out) HB2.out) HB3.out) HB4.out) 3).trans rfl⟩, ⟨(blk_cell (blk_below (blk_below (blk_below (blk_below HMd.out HB1.out) HB2.out) HB3.out) HB4.out) 0).trans rfl, (blk_cell (blk_below (blk_below (blk_below (blk_below HMd.out HB1.out) HB2.out) HB3.out) HB4.out) 1).trans rfl, (blk_cell (blk_below (blk_below (blk_below (blk_below HMd.out HB1.out) HB2.out) HB3.out) HB4.out) 2).trans rfl, (blk_cell (blk_below (blk_below (blk_below (blk_below HMd.out HB1.out) HB2.out) HB3.out) HB4.out) 3).trans rfl⟩⟩ (fun hHeld => ?_)
              clear hK K hb hHeld
              refine norm_ (a' := ?_) ?_ ?_
              rotate_left
              · show Act.put _ (some 8) _ = _
                simp only [Act.put, List.setIfInBounds_toArray, List.set_cons_zero, List.set_cons_succ]
                rfl
              have z1 := HB1.out.size
              have z2 := HB2.out.size
              have z3 := HB3.out.size
              have z4 := HB4.out.size
              have y4 := blk_lt HX4.out
              have y5 := blk_lt HX5.out
              exact hcont ⟨B1, d1, B3, d3, D1, e1, D3, e3, g4, g5⟩ _ ⟨(((HWX.out.below HB2.out).below HB3.out).below HB4.out).lower (below_size (Below.refl _ wd)), (HWY.out.below HB4.out).lower (below_size (below_step HB1.out HB2.out)), (blk_below (blk_below HX4.out HB3.out) HB4.out), HX5.out, (show g4 ≠ g5 by omega), (show wd.heap.size ≤ g4 by omega), (show wd.heap.size ≤ g5 by omega), (below_step (below_step (below_step HB1.out HB2.out) HB3.out) HB4.out)⟩
            · refine box_step ?hg (N := 8) ?hd (cs := #[.int .i64 0, .slice none 0 0, .int .i64 0, .slice none 0 0]) (t := 38) ?hr ?_; (case hd => rfl); (case hg => rfl); (case hr => first | (go_simp; done) | (go_simp; rfl))
              intro g5 hg5 w13 hbox hb
              have HX5 := Aside0.mk hbox
              clear hbox
              have HB3 := Aside0.mk hb
              refine hK.out _ _ ⟨⟨(blk_cell (blk_below (blk_below (blk_below HFd.out HB1.out) HB2.out) HB3.out) 0).trans rfl, (blk_cell (blk_below (blk_below (blk_below HFd.out HB1.out) HB2.out) HB3.out) 1).trans rfl, (blk_cell (blk_below (blk_below (blk_below HFd.out HB1.out) HB2.out) HB3.out) 2).trans rfl, (blk_cell (blk_below (blk_below (blk_below HFd.out HB1.out) HB2.out) HB3.out) 3).trans rfl⟩, ⟨(blk_cell (blk_below (blk_below (blk_below HMd.out HB1.out) HB2.out) HB3.out) 0).trans rfl, (blk_cell (blk_below (blk_below (blk_below HMd.out HB1.out) HB2.out) HB3.out) 1).trans rfl, (blk_cell (blk_below (blk_below (blk_below HMd.out HB1.out) HB2.out) HB3.out) 2).trans rfl, (blk_cell (blk_below (blk_below (blk_below HMd.out HB1.out) HB2.out) HB3.out) 3).trans rfl⟩⟩ (fun hHeld => ?_)
              clear hK K hb hHeld
              refine norm_ (a' := ?_) ?_ ?_
              rotate_left
              · show Act.put _ (some 8) _ = _
                simp only [Act.put, List.setIfInBounds_toArray, List.set_cons_zero, List.set_cons_succ]
                rfl
              refine one_ (i := 3) (N := some 29) #[true, true, true, true, true, true, false, false] rfl rfl (by kernel_rfl) (by decide) (fun K hK => ?_)
              refine goes_ Tryd.func26 (by kernel_rfl) rfl #[.agg #[.int .i64 y.q, .slice E1 y.ls.length f1, .int .i64 y.k, .slice E3 y.cs.length f3]] (by rfl) rfl rfl (by (try simp only [List.map_toArray, List.map_cons, List.map_nil]); first | done | rfl) ?_
              refine (HC2.out _ (below_step (below_step HB1.out HB2.out) HB3.out)).mono ?_
              rintro e w14 ⟨D1, e1, D3, e3, rfl, hw, hb⟩
              have HWY := Aside0.mk hw
              clear hw
              have HB4 := Aside0.mk hb
              refine ⟨_, rfl, ?_⟩
              refine hK.out _ _ ⟨⟨(blk_cell (blk_below (blk_below (blk_below (blk_below HFd.out HB1.out) HB2.out) HB3.out) HB4.out) 0).trans rfl, (blk_cell (blk_below (blk_below (blk_below (blk_below HFd.out HB1.out) HB2.out) HB3.out) HB4.out) 1).trans rfl, (blk_cell (blk_below (blk_below (blk_below (blk_below HFd.out HB1.out) HB2.out) HB3.out) HB4.out) 2).trans rfl, (blk_cell (blk_below (blk_below (blk_below (blk_below HFd.out HB1.out) HB2.out) HB3.out) HB4.out) 3).trans rfl⟩, ⟨(blk_cell (blk_below (blk_below (blk_below (blk_below HMd.out HB1.out) HB2.out) HB3.out) HB4.out) 0).trans rfl, (blk_cell (blk_below (blk_below (blk_below (blk_below HMd.out HB1.out) HB2.out) HB3.out) HB4.out) 1).trans rfl, (blk_cell (blk_below (blk_below (blk_below (blk_below HMd.out HB1.out) HB2.out) HB3.out) HB4.out) 2).trans rfl, (blk_cell (blk_below (blk_below (blk_below (blk_below HMd.out HB1.out) HB2.out) HB3.out) HB4.out) 3).trans rfl⟩⟩ (fun hHeld => ?_)
              clear hK K hb hHeld
              refine norm_ (a' := ?_) ?_ ?_
              rotate_left
              · show Act.put _ (some 29) _ = _
                simp only [Act.put, List.setIfInBounds_toArray, List.set_cons_zero, List.set_cons_succ]
                rfl
              have z1 := HB1.out.size
              have z2 := HB2.out.size
              have z3 := HB3.out.size
              have z4 := HB4.out.size
              have y4 := blk_lt HX4.out
              have y5 := blk_lt HX5.out
              exact hcont ⟨B1, d1, B3, d3, D1, e1, D3, e3, g4, g5⟩ _ ⟨(((HWX.out.below HB2.out).below HB3.out).below HB4.out).lower (below_size (Below.refl _ wd)), HWY.out.lower (below_size (below_step (below_step HB1.out HB2.out) HB3.out)), (blk_below (blk_below HX4.out HB3.out) HB4.out), (blk_below HX5.out HB4.out), (show g4 ≠ g5 by omega), (show wd.heap.size ≤ g4 by omega), (show wd.heap.size ≤ g5 by omega), (below_step (below_step (below_step HB1.out HB2.out) HB3.out) HB4.out)⟩
          · refine box_step ?hg (N := 8) ?hd (cs := #[.int .i64 0, .slice none 0 0, .int .i64 0, .slice none 0 0]) (t := 38) ?hr ?_; (case hd => rfl); (case hg => rfl); (case hr => first | (go_simp; done) | (go_simp; rfl))
            intro g5 hg5 w12 hbox hb
            have HX5 := Aside0.mk hbox
            clear hbox
            have HB2 := Aside0.mk hb
            refine hK.out _ _ ⟨⟨(blk_cell (blk_below (blk_below HFd.out HB1.out) HB2.out) 0).trans rfl, (blk_cell (blk_below (blk_below HFd.out HB1.out) HB2.out) 1).trans rfl, (blk_cell (blk_below (blk_below HFd.out HB1.out) HB2.out) 2).trans rfl, (blk_cell (blk_below (blk_below HFd.out HB1.out) HB2.out) 3).trans rfl⟩, ⟨(blk_cell (blk_below (blk_below HMd.out HB1.out) HB2.out) 0).trans rfl, (blk_cell (blk_below (blk_below HMd.out HB1.out) HB2.out) 1).trans rfl, (blk_cell (blk_below (blk_below HMd.out HB1.out) HB2.out) 2).trans rfl, (blk_cell (blk_below (blk_below HMd.out HB1.out) HB2.out) 3).trans rfl⟩⟩ (fun hHeld => ?_)
            clear hK K hb hHeld
            refine norm_ (a' := ?_) ?_ ?_
            rotate_left
            · show Act.put _ (some 8) _ = _
              simp only [Act.put, List.setIfInBounds_toArray, List.set_cons_zero, List.set_cons_succ]
              rfl
            refine two_ (i := 3) (Ni := some 29) (j := 4) (Nj := some 7) #[true, true, true, true, false, true, false, false] #[true, true, true, false, true, true, false, false] rfl rfl rfl rfl (by kernel_rfl) (by decide) (by decide) (fun K hK => ?_) (fun K hK => ?_)
            · refine goes_ Tryd.func26 (by kernel_rfl) rfl #[.agg #[.int .i64 y.q, .slice E1 y.ls.length f1, .int .i64 y.k, .slice E3 y.cs.length f3]] (by rfl) rfl rfl (by (try simp only [List.map_toArray, List.map_cons, List.map_nil]); first | done | rfl) ?_
              refine (HC2.out _ (below_step HB1.out HB2.out)).mono ?_
              rintro e w13 ⟨D1, e1, D3, e3, rfl, hw, hb⟩
              have HWY := Aside0.mk hw
              clear hw
              have HB3 := Aside0.mk hb
              refine ⟨_, rfl, ?_⟩
              refine hK.out _ _ ⟨⟨(blk_cell (blk_below (blk_below (blk_below HFd.out HB1.out) HB2.out) HB3.out) 0).trans rfl, (blk_cell (blk_below (blk_below (blk_below HFd.out HB1.out) HB2.out) HB3.out) 1).trans rfl, (blk_cell (blk_below (blk_below (blk_below HFd.out HB1.out) HB2.out) HB3.out) 2).trans rfl, (blk_cell (blk_below (blk_below (blk_below HFd.out HB1.out) HB2.out) HB3.out) 3).trans rfl⟩, ⟨(blk_cell (blk_below (blk_below (blk_below HMd.out HB1.out) HB2.out) HB3.out) 0).trans rfl, (blk_cell (blk_below (blk_below (blk_below HMd.out HB1.out) HB2.out) HB3.out) 1).trans rfl, (blk_cell (blk_below (blk_below (blk_below HMd.out HB1.out) HB2.out) HB3.out) 2).trans rfl, (blk_cell (blk_below (blk_below (blk_below HMd.out HB1.out) HB2.out) HB3.out) 3).trans rfl⟩⟩ (fun hHeld => ?_)
              clear hK K hb hHeld
              refine norm_ (a' := ?_) ?_ ?_
              rotate_left
              · show Act.put _ (some 29) _ = _
                simp only [Act.put, List.setIfInBounds_toArray, List.set_cons_zero, List.set_cons_succ]
                rfl
              refine one_ (i := 4) (N := some 7) #[true, true, true, true, true, true, false, false] rfl rfl (by kernel_rfl) (by decide) (fun K hK => ?_)
              refine box_step ?hg (N := 7) ?hd (cs := #[.int .i64 0, .slice none 0 0, .int .i64 0, .slice none 0 0]) (t := 38) ?hr ?_; (case hd => rfl); (case hg => rfl); (case hr => first | (go_simp; done) | (go_simp; rfl))
              intro g4 hg4 w14 hbox hb
              have HX4 := Aside0.mk hbox
              clear hbox
              have HB4 := Aside0.mk hb
              refine hK.out _ _ ⟨⟨(blk_cell (blk_below (blk_below (blk_below (blk_below HFd.out HB1.out) HB2.out) HB3.out) HB4.out) 0).trans rfl, (blk_cell (blk_below (blk_below (blk_below (blk_below HFd.out HB1.out) HB2.out) HB3.out) HB4.out) 1).trans rfl, (blk_cell (blk_below (blk_below (blk_below (blk_below HFd.out HB1.out) HB2.out) HB3.out) HB4.out) 2).trans rfl, (blk_cell (blk_below (blk_below (blk_below (blk_below HFd.out HB1.out) HB2.out) HB3.out) HB4.out) 3).trans rfl⟩, ⟨(blk_cell (blk_below (blk_below (blk_below (blk_below HMd.out HB1.out) HB2.out) HB3.out) HB4.out) 0).trans rfl, (blk_cell (blk_below (blk_below (blk_below (blk_below HMd.out HB1.out) HB2.out) HB3.out) HB4.out) 1).trans rfl, (blk_cell (blk_below (blk_below (blk_below (blk_below HMd.out HB1.out) HB2.out) HB3.out) HB4.out) 2).trans rfl, (blk_cell (blk_below (blk_below (blk_below (blk_below HMd.out HB1.out) HB2.out) HB3.out) HB4.out) 3).trans rfl⟩⟩ (fun hHeld => ?_)
              clear hK K hb hHeld
              refine norm_ (a' := ?_) ?_ ?_
              rotate_left
              · show Act.put _ (some 7) _ = _
                simp only [Act.put, List.setIfInBounds_toArray, List.set_cons_zero, List.set_cons_succ]
                rfl
              have z1 := HB1.out.size
              have z2 := HB2.out.size
              have z3 := HB3.out.size
              have z4 := HB4.out.size
              have y4 := blk_lt HX4.out
              have y5 := blk_lt HX5.out
              exact hcont ⟨B1, d1, B3, d3, D1, e1, D3, e3, g4, g5⟩ _ ⟨(((HWX.out.below HB2.out).below HB3.out).below HB4.out).lower (below_size (Below.refl _ wd)), (HWY.out.below HB4.out).lower (below_size (below_step HB1.out HB2.out)), HX4.out, (blk_below (blk_below HX5.out HB3.out) HB4.out), (show g4 ≠ g5 by omega), (show wd.heap.size ≤ g4 by omega), (show wd.heap.size ≤ g5 by omega), (below_step (below_step (below_step HB1.out HB2.out) HB3.out) HB4.out)⟩
            · refine box_step ?hg (N := 7) ?hd (cs := #[.int .i64 0, .slice none 0 0, .int .i64 0, .slice none 0 0]) (t := 38) ?hr ?_; (case hd => rfl); (case hg => rfl); (case hr => first | (go_simp; done) | (go_simp; rfl))
              intro g4 hg4 w13 hbox hb
              have HX4 := Aside0.mk hbox
              clear hbox
              have HB3 := Aside0.mk hb
              refine hK.out _ _ ⟨⟨(blk_cell (blk_below (blk_below (blk_below HFd.out HB1.out) HB2.out) HB3.out) 0).trans rfl, (blk_cell (blk_below (blk_below (blk_below HFd.out HB1.out) HB2.out) HB3.out) 1).trans rfl, (blk_cell (blk_below (blk_below (blk_below HFd.out HB1.out) HB2.out) HB3.out) 2).trans rfl, (blk_cell (blk_below (blk_below (blk_below HFd.out HB1.out) HB2.out) HB3.out) 3).trans rfl⟩, ⟨(blk_cell (blk_below (blk_below (blk_below HMd.out HB1.out) HB2.out) HB3.out) 0).trans rfl, (blk_cell (blk_below (blk_below (blk_below HMd.out HB1.out) HB2.out) HB3.out) 1).trans rfl, (blk_cell (blk_below (blk_below (blk_below HMd.out HB1.out) HB2.out) HB3.out) 2).trans rfl, (blk_cell (blk_below (blk_below (blk_below HMd.out HB1.out) HB2.out) HB3.out) 3).trans rfl⟩⟩ (fun hHeld => ?_)
              clear hK K hb hHeld
              refine norm_ (a' := ?_) ?_ ?_
              rotate_left
              · show Act.put _ (some 7) _ = _
                simp only [Act.put, List.setIfInBounds_toArray, List.set_cons_zero, List.set_cons_succ]
                rfl
              refine one_ (i := 3) (N := some 29) #[true, true, true, true, true, true, false, false] rfl rfl (by kernel_rfl) (by decide) (fun K hK => ?_)
              refine goes_ Tryd.func26 (by kernel_rfl) rfl #[.agg #[.int .i64 y.q, .slice E1 y.ls.length f1, .int .i64 y.k, .slice E3 y.cs.length f3]] (by rfl) rfl rfl (by (try simp only [List.map_toArray, List.map_cons, List.map_nil]); first | done | rfl) ?_
              refine (HC2.out _ (below_step (below_step HB1.out HB2.out) HB3.out)).mono ?_
              rintro e w14 ⟨D1, e1, D3, e3, rfl, hw, hb⟩
              have HWY := Aside0.mk hw
              clear hw
              have HB4 := Aside0.mk hb
              refine ⟨_, rfl, ?_⟩
              refine hK.out _ _ ⟨⟨(blk_cell (blk_below (blk_below (blk_below (blk_below HFd.out HB1.out) HB2.out) HB3.out) HB4.out) 0).trans rfl, (blk_cell (blk_below (blk_below (blk_below (blk_below HFd.out HB1.out) HB2.out) HB3.out) HB4.out) 1).trans rfl, (blk_cell (blk_below (blk_below (blk_below (blk_below HFd.out HB1.out) HB2.out) HB3.out) HB4.out) 2).trans rfl, (blk_cell (blk_below (blk_below (blk_below (blk_below HFd.out HB1.out) HB2.out) HB3.out) HB4.out) 3).trans rfl⟩, ⟨(blk_cell (blk_below (blk_below (blk_below (blk_below HMd.out HB1.out) HB2.out) HB3.out) HB4.out) 0).trans rfl, (blk_cell (blk_below (blk_below (blk_below (blk_below HMd.out HB1.out) HB2.out) HB3.out) HB4.out) 1).trans rfl, (blk_cell (blk_below (blk_below (blk_below (blk_below HMd.out HB1.out) HB2.out) HB3.out) HB4.out) 2).trans rfl, (blk_cell (blk_below (blk_below (blk_below (blk_below HMd.out HB1.out) HB2.out) HB3.out) HB4.out) 3).trans rfl⟩⟩ (fun hHeld => ?_)
              clear hK K hb hHeld
              refine norm_ (a' := ?_) ?_ ?_
              rotate_left
              · show Act.put _ (some 29) _ = _
                simp only [Act.put, List.setIfInBounds_toArray, List.set_cons_zero, List.set_cons_succ]
                rfl
              have z1 := HB1.out.size
              have z2 := HB2.out.size
              have z3 := HB3.out.size
              have z4 := HB4.out.size
              have y4 := blk_lt HX4.out
              have y5 := blk_lt HX5.out
              exact hcont ⟨B1, d1, B3, d3, D1, e1, D3, e3, g4, g5⟩ _ ⟨(((HWX.out.below HB2.out).below HB3.out).below HB4.out).lower (below_size (Below.refl _ wd)), HWY.out.lower (below_size (below_step (below_step HB1.out HB2.out) HB3.out)), (blk_below HX4.out HB4.out), (blk_below (blk_below HX5.out HB3.out) HB4.out), (show g4 ≠ g5 by omega), (show wd.heap.size ≤ g4 by omega), (show wd.heap.size ≤ g5 by omega), (below_step (below_step (below_step HB1.out HB2.out) HB3.out) HB4.out)⟩
        · refine box_step ?hg (N := 7) ?hd (cs := #[.int .i64 0, .slice none 0 0, .int .i64 0, .slice none 0 0]) (t := 38) ?hr ?_; (case hd => rfl); (case hg => rfl); (case hr => first | (go_simp; done) | (go_simp; rfl))
          intro g4 hg4 w11 hbox hb
          have HX4 := Aside0.mk hbox
          clear hbox
          have HB1 := Aside0.mk hb
          refine hK.out _ _ ⟨⟨(blk_cell (blk_below HFd.out HB1.out) 0).trans rfl, (blk_cell (blk_below HFd.out HB1.out) 1).trans rfl, (blk_cell (blk_below HFd.out HB1.out) 2).trans rfl, (blk_cell (blk_below HFd.out HB1.out) 3).trans rfl⟩, ⟨(blk_cell (blk_below HMd.out HB1.out) 0).trans rfl, (blk_cell (blk_below HMd.out HB1.out) 1).trans rfl, (blk_cell (blk_below HMd.out HB1.out) 2).trans rfl, (blk_cell (blk_below HMd.out HB1.out) 3).trans rfl⟩⟩ (fun hHeld => ?_)
          clear hK K hb hHeld
          refine norm_ (a' := ?_) ?_ ?_
          rotate_left
          · show Act.put _ (some 7) _ = _
            simp only [Act.put, List.setIfInBounds_toArray, List.set_cons_zero, List.set_cons_succ]
            rfl
          refine two_ (i := 1) (Ni := some 27) (j := 5) (Nj := some 8) #[true, true, true, false, true, false, false, false] #[true, false, true, false, true, true, false, false] rfl rfl rfl rfl (by kernel_rfl) (by decide) (by decide) (fun K hK => ?_) (fun K hK => ?_)
          · refine goes_ Tryd.func26 (by kernel_rfl) rfl #[.agg #[.int .i64 x.q, .slice A1 x.ls.length c1, .int .i64 x.k, .slice A3 x.cs.length c3]] (by rfl) rfl rfl (by (try simp only [List.map_toArray, List.map_cons, List.map_nil]); first | done | rfl) ?_
            refine (HC1.out _ HB1.out).mono ?_
            rintro e w12 ⟨B1, d1, B3, d3, rfl, hw, hb⟩
            have HWX := Aside0.mk hw
            clear hw
            have HB2 := Aside0.mk hb
            refine ⟨_, rfl, ?_⟩
            refine hK.out _ _ ⟨⟨(blk_cell (blk_below (blk_below HFd.out HB1.out) HB2.out) 0).trans rfl, (blk_cell (blk_below (blk_below HFd.out HB1.out) HB2.out) 1).trans rfl, (blk_cell (blk_below (blk_below HFd.out HB1.out) HB2.out) 2).trans rfl, (blk_cell (blk_below (blk_below HFd.out HB1.out) HB2.out) 3).trans rfl⟩, ⟨(blk_cell (blk_below (blk_below HMd.out HB1.out) HB2.out) 0).trans rfl, (blk_cell (blk_below (blk_below HMd.out HB1.out) HB2.out) 1).trans rfl, (blk_cell (blk_below (blk_below HMd.out HB1.out) HB2.out) 2).trans rfl, (blk_cell (blk_below (blk_below HMd.out HB1.out) HB2.out) 3).trans rfl⟩⟩ (fun hHeld => ?_)
            clear hK K hb hHeld
            refine norm_ (a' := ?_) ?_ ?_
            rotate_left
            · show Act.put _ (some 27) _ = _
              simp only [Act.put, List.setIfInBounds_toArray, List.set_cons_zero, List.set_cons_succ]
              rfl
            refine two_ (i := 3) (Ni := some 29) (j := 5) (Nj := some 8) #[true, true, true, true, true, false, false, false] #[true, true, true, false, true, true, false, false] rfl rfl rfl rfl (by kernel_rfl) (by decide) (by decide) (fun K hK => ?_) (fun K hK => ?_)
            · refine goes_ Tryd.func26 (by kernel_rfl) rfl #[.agg #[.int .i64 y.q, .slice E1 y.ls.length f1, .int .i64 y.k, .slice E3 y.cs.length f3]] (by rfl) rfl rfl (by (try simp only [List.map_toArray, List.map_cons, List.map_nil]); first | done | rfl) ?_
              refine (HC2.out _ (below_step HB1.out HB2.out)).mono ?_
              rintro e w13 ⟨D1, e1, D3, e3, rfl, hw, hb⟩
              have HWY := Aside0.mk hw
              clear hw
              have HB3 := Aside0.mk hb
              refine ⟨_, rfl, ?_⟩
              refine hK.out _ _ ⟨⟨(blk_cell (blk_below (blk_below (blk_below HFd.out HB1.out) HB2.out) HB3.out) 0).trans rfl, (blk_cell (blk_below (blk_below (blk_below HFd.out HB1.out) HB2.out) HB3.out) 1).trans rfl, (blk_cell (blk_below (blk_below (blk_below HFd.out HB1.out) HB2.out) HB3.out) 2).trans rfl, (blk_cell (blk_below (blk_below (blk_below HFd.out HB1.out) HB2.out) HB3.out) 3).trans rfl⟩, ⟨(blk_cell (blk_below (blk_below (blk_below HMd.out HB1.out) HB2.out) HB3.out) 0).trans rfl, (blk_cell (blk_below (blk_below (blk_below HMd.out HB1.out) HB2.out) HB3.out) 1).trans rfl, (blk_cell (blk_below (blk_below (blk_below HMd.out HB1.out) HB2.out) HB3.out) 2).trans rfl, (blk_cell (blk_below (blk_below (blk_below HMd.out HB1.out) HB2.out) HB3.out) 3).trans rfl⟩⟩ (fun hHeld => ?_)
              clear hK K hb hHeld
              refine norm_ (a' := ?_) ?_ ?_
              rotate_left
              · show Act.put _ (some 29) _ = _
                simp only [Act.put, List.setIfInBounds_toArray, List.set_cons_zero, List.set_cons_succ]
                rfl
              refine one_ (i := 5) (N := some 8) #[true, true, true, true, true, true, false, false] rfl rfl (by kernel_rfl) (by decide) (fun K hK => ?_)
              refine box_step ?hg (N := 8) ?hd (cs := #[.int .i64 0, .slice none 0 0, .int .i64 0, .slice none 0 0]) (t := 38) ?hr ?_; (case hd => rfl); (case hg => rfl); (case hr => first | (go_simp; done) | (go_simp; rfl))
              intro g5 hg5 w14 hbox hb
              have HX5 := Aside0.mk hbox
              clear hbox
              have HB4 := Aside0.mk hb
              refine hK.out _ _ ⟨⟨(blk_cell (blk_below (blk_below (blk_below (blk_below HFd.out HB1.out) HB2.out) HB3.out) HB4.out) 0).trans rfl, (blk_cell (blk_below (blk_below (blk_below (blk_below HFd.out HB1.out) HB2.out) HB3.out) HB4.out) 1).trans rfl, (blk_cell (blk_below (blk_below (blk_below (blk_below HFd.out HB1.out) HB2.out) HB3.out) HB4.out) 2).trans rfl, (blk_cell (blk_below (blk_below (blk_below (blk_below HFd.out HB1.out) HB2.out) HB3.out) HB4.out) 3).trans rfl⟩, ⟨(blk_cell (blk_below (blk_below (blk_below (blk_below HMd.out HB1.out) HB2.out) HB3.out) HB4.out) 0).trans rfl, (blk_cell (blk_below (blk_below (blk_below (blk_below HMd.out HB1.out) HB2.out) HB3.out) HB4.out) 1).trans rfl, (blk_cell (blk_below (blk_below (blk_below (blk_below HMd.out HB1.out) HB2.out) HB3.out) HB4.out) 2).trans rfl, (blk_cell (blk_below (blk_below (blk_below (blk_below HMd.out HB1.out) HB2.out) HB3.out) HB4.out) 3).trans rfl⟩⟩ (fun hHeld => ?_)
              clear hK K hb hHeld
              refine norm_ (a' := ?_) ?_ ?_
              rotate_left
              · show Act.put _ (some 8) _ = _
                simp only [Act.put, List.setIfInBounds_toArray, List.set_cons_zero, List.set_cons_succ]
                rfl
              have z1 := HB1.out.size
              have z2 := HB2.out.size
              have z3 := HB3.out.size
              have z4 := HB4.out.size
              have y4 := blk_lt HX4.out
              have y5 := blk_lt HX5.out
              exact hcont ⟨B1, d1, B3, d3, D1, e1, D3, e3, g4, g5⟩ _ ⟨((HWX.out.below HB3.out).below HB4.out).lower (below_size HB1.out), (HWY.out.below HB4.out).lower (below_size (below_step HB1.out HB2.out)), (blk_below (blk_below (blk_below HX4.out HB2.out) HB3.out) HB4.out), HX5.out, (show g4 ≠ g5 by omega), (show wd.heap.size ≤ g4 by omega), (show wd.heap.size ≤ g5 by omega), (below_step (below_step (below_step HB1.out HB2.out) HB3.out) HB4.out)⟩
            · refine box_step ?hg (N := 8) ?hd (cs := #[.int .i64 0, .slice none 0 0, .int .i64 0, .slice none 0 0]) (t := 38) ?hr ?_; (case hd => rfl); (case hg => rfl); (case hr => first | (go_simp; done) | (go_simp; rfl))
              intro g5 hg5 w13 hbox hb
              have HX5 := Aside0.mk hbox
              clear hbox
              have HB3 := Aside0.mk hb
              refine hK.out _ _ ⟨⟨(blk_cell (blk_below (blk_below (blk_below HFd.out HB1.out) HB2.out) HB3.out) 0).trans rfl, (blk_cell (blk_below (blk_below (blk_below HFd.out HB1.out) HB2.out) HB3.out) 1).trans rfl, (blk_cell (blk_below (blk_below (blk_below HFd.out HB1.out) HB2.out) HB3.out) 2).trans rfl, (blk_cell (blk_below (blk_below (blk_below HFd.out HB1.out) HB2.out) HB3.out) 3).trans rfl⟩, ⟨(blk_cell (blk_below (blk_below (blk_below HMd.out HB1.out) HB2.out) HB3.out) 0).trans rfl, (blk_cell (blk_below (blk_below (blk_below HMd.out HB1.out) HB2.out) HB3.out) 1).trans rfl, (blk_cell (blk_below (blk_below (blk_below HMd.out HB1.out) HB2.out) HB3.out) 2).trans rfl, (blk_cell (blk_below (blk_below (blk_below HMd.out HB1.out) HB2.out) HB3.out) 3).trans rfl⟩⟩ (fun hHeld => ?_)
              clear hK K hb hHeld
              refine norm_ (a' := ?_) ?_ ?_
              rotate_left
              · show Act.put _ (some 8) _ = _
                simp only [Act.put, List.setIfInBounds_toArray, List.set_cons_zero, List.set_cons_succ]
                rfl
              refine one_ (i := 3) (N := some 29) #[true, true, true, true, true, true, false, false] rfl rfl (by kernel_rfl) (by decide) (fun K hK => ?_)
              refine goes_ Tryd.func26 (by kernel_rfl) rfl #[.agg #[.int .i64 y.q, .slice E1 y.ls.length f1, .int .i64 y.k, .slice E3 y.cs.length f3]] (by rfl) rfl rfl (by (try simp only [List.map_toArray, List.map_cons, List.map_nil]); first | done | rfl) ?_
              refine (HC2.out _ (below_step (below_step HB1.out HB2.out) HB3.out)).mono ?_
              rintro e w14 ⟨D1, e1, D3, e3, rfl, hw, hb⟩
              have HWY := Aside0.mk hw
              clear hw
              have HB4 := Aside0.mk hb
              refine ⟨_, rfl, ?_⟩
              refine hK.out _ _ ⟨⟨(blk_cell (blk_below (blk_below (blk_below (blk_below HFd.out HB1.out) HB2.out) HB3.out) HB4.out) 0).trans rfl, (blk_cell (blk_below (blk_below (blk_below (blk_below HFd.out HB1.out) HB2.out) HB3.out) HB4.out) 1).trans rfl, (blk_cell (blk_below (blk_below (blk_below (blk_below HFd.out HB1.out) HB2.out) HB3.out) HB4.out) 2).trans rfl, (blk_cell (blk_below (blk_below (blk_below (blk_below HFd.out HB1.out) HB2.out) HB3.out) HB4.out) 3).trans rfl⟩, ⟨(blk_cell (blk_below (blk_below (blk_below (blk_below HMd.out HB1.out) HB2.out) HB3.out) HB4.out) 0).trans rfl, (blk_cell (blk_below (blk_below (blk_below (blk_below HMd.out HB1.out) HB2.out) HB3.out) HB4.out) 1).trans rfl, (blk_cell (blk_below (blk_below (blk_below (blk_below HMd.out HB1.out) HB2.out) HB3.out) HB4.out) 2).trans rfl, (blk_cell (blk_below (blk_below (blk_below (blk_below HMd.out HB1.out) HB2.out) HB3.out) HB4.out) 3).trans rfl⟩⟩ (fun hHeld => ?_)
              clear hK K hb hHeld
              refine norm_ (a' := ?_) ?_ ?_
              rotate_left
              · show Act.put _ (some 29) _ = _
                simp only [Act.put, List.setIfInBounds_toArray, List.set_cons_zero, List.set_cons_succ]
                rfl
              have z1 := HB1.out.size
              have z2 := HB2.out.size
              have z3 := HB3.out.size
              have z4 := HB4.out.size
              have y4 := blk_lt HX4.out
              have y5 := blk_lt HX5.out
              exact hcont ⟨B1, d1, B3, d3, D1, e1, D3, e3, g4, g5⟩ _ ⟨((HWX.out.below HB3.out).below HB4.out).lower (below_size HB1.out), HWY.out.lower (below_size (below_step (below_step HB1.out HB2.out) HB3.out)), (blk_below (blk_below (blk_below HX4.out HB2.out) HB3.out) HB4.out), (blk_below HX5.out HB4.out), (show g4 ≠ g5 by omega), (show wd.heap.size ≤ g4 by omega), (show wd.heap.size ≤ g5 by omega), (below_step (below_step (below_step HB1.out HB2.out) HB3.out) HB4.out)⟩
          · refine box_step ?hg (N := 8) ?hd (cs := #[.int .i64 0, .slice none 0 0, .int .i64 0, .slice none 0 0]) (t := 38) ?hr ?_; (case hd => rfl); (case hg => rfl); (case hr => first | (go_simp; done) | (go_simp; rfl))
            intro g5 hg5 w12 hbox hb
            have HX5 := Aside0.mk hbox
            clear hbox
            have HB2 := Aside0.mk hb
            refine hK.out _ _ ⟨⟨(blk_cell (blk_below (blk_below HFd.out HB1.out) HB2.out) 0).trans rfl, (blk_cell (blk_below (blk_below HFd.out HB1.out) HB2.out) 1).trans rfl, (blk_cell (blk_below (blk_below HFd.out HB1.out) HB2.out) 2).trans rfl, (blk_cell (blk_below (blk_below HFd.out HB1.out) HB2.out) 3).trans rfl⟩, ⟨(blk_cell (blk_below (blk_below HMd.out HB1.out) HB2.out) 0).trans rfl, (blk_cell (blk_below (blk_below HMd.out HB1.out) HB2.out) 1).trans rfl, (blk_cell (blk_below (blk_below HMd.out HB1.out) HB2.out) 2).trans rfl, (blk_cell (blk_below (blk_below HMd.out HB1.out) HB2.out) 3).trans rfl⟩⟩ (fun hHeld => ?_)
            clear hK K hb hHeld
            refine norm_ (a' := ?_) ?_ ?_
            rotate_left
            · show Act.put _ (some 8) _ = _
              simp only [Act.put, List.setIfInBounds_toArray, List.set_cons_zero, List.set_cons_succ]
              rfl
            refine one_ (i := 1) (N := some 27) #[true, true, true, false, true, true, false, false] rfl rfl (by kernel_rfl) (by decide) (fun K hK => ?_)
            refine goes_ Tryd.func26 (by kernel_rfl) rfl #[.agg #[.int .i64 x.q, .slice A1 x.ls.length c1, .int .i64 x.k, .slice A3 x.cs.length c3]] (by rfl) rfl rfl (by (try simp only [List.map_toArray, List.map_cons, List.map_nil]); first | done | rfl) ?_
            refine (HC1.out _ (below_step HB1.out HB2.out)).mono ?_
            rintro e w13 ⟨B1, d1, B3, d3, rfl, hw, hb⟩
            have HWX := Aside0.mk hw
            clear hw
            have HB3 := Aside0.mk hb
            refine ⟨_, rfl, ?_⟩
            refine hK.out _ _ ⟨⟨(blk_cell (blk_below (blk_below (blk_below HFd.out HB1.out) HB2.out) HB3.out) 0).trans rfl, (blk_cell (blk_below (blk_below (blk_below HFd.out HB1.out) HB2.out) HB3.out) 1).trans rfl, (blk_cell (blk_below (blk_below (blk_below HFd.out HB1.out) HB2.out) HB3.out) 2).trans rfl, (blk_cell (blk_below (blk_below (blk_below HFd.out HB1.out) HB2.out) HB3.out) 3).trans rfl⟩, ⟨(blk_cell (blk_below (blk_below (blk_below HMd.out HB1.out) HB2.out) HB3.out) 0).trans rfl, (blk_cell (blk_below (blk_below (blk_below HMd.out HB1.out) HB2.out) HB3.out) 1).trans rfl, (blk_cell (blk_below (blk_below (blk_below HMd.out HB1.out) HB2.out) HB3.out) 2).trans rfl, (blk_cell (blk_below (blk_below (blk_below HMd.out HB1.out) HB2.out) HB3.out) 3).trans rfl⟩⟩ (fun hHeld => ?_)
            clear hK K hb hHeld
            refine norm_ (a' := ?_) ?_ ?_
            rotate_left
            · show Act.put _ (some 27) _ = _
              simp only [Act.put, List.setIfInBounds_toArray, List.set_cons_zero, List.set_cons_succ]
              rfl
            refine one_ (i := 3) (N := some 29) #[true, true, true, true, true, true, false, false] rfl rfl (by kernel_rfl) (by decide) (fun K hK => ?_)
            refine goes_ Tryd.func26 (by kernel_rfl) rfl #[.agg #[.int .i64 y.q, .slice E1 y.ls.length f1, .int .i64 y.k, .slice E3 y.cs.length f3]] (by rfl) rfl rfl (by (try simp only [List.map_toArray, List.map_cons, List.map_nil]); first | done | rfl) ?_
            refine (HC2.out _ (below_step (below_step HB1.out HB2.out) HB3.out)).mono ?_
            rintro e w14 ⟨D1, e1, D3, e3, rfl, hw, hb⟩
            have HWY := Aside0.mk hw
            clear hw
            have HB4 := Aside0.mk hb
            refine ⟨_, rfl, ?_⟩
            refine hK.out _ _ ⟨⟨(blk_cell (blk_below (blk_below (blk_below (blk_below HFd.out HB1.out) HB2.out) HB3.out) HB4.out) 0).trans rfl, (blk_cell (blk_below (blk_below (blk_below (blk_below HFd.out HB1.out) HB2.out) HB3.out) HB4.out) 1).trans rfl, (blk_cell (blk_below (blk_below (blk_below (blk_below HFd.out HB1.out) HB2.out) HB3.out) HB4.out) 2).trans rfl, (blk_cell (blk_below (blk_below (blk_below (blk_below HFd.out HB1.out) HB2.out) HB3.out) HB4.out) 3).trans rfl⟩, ⟨(blk_cell (blk_below (blk_below (blk_below (blk_below HMd.out HB1.out) HB2.out) HB3.out) HB4.out) 0).trans rfl, (blk_cell (blk_below (blk_below (blk_below (blk_below HMd.out HB1.out) HB2.out) HB3.out) HB4.out) 1).trans rfl, (blk_cell (blk_below (blk_below (blk_below (blk_below HMd.out HB1.out) HB2.out) HB3.out) HB4.out) 2).trans rfl, (blk_cell (blk_below (blk_below (blk_below (blk_below HMd.out HB1.out) HB2.out) HB3.out) HB4.out) 3).trans rfl⟩⟩ (fun hHeld => ?_)
            clear hK K hb hHeld
            refine norm_ (a' := ?_) ?_ ?_
            rotate_left
            · show Act.put _ (some 29) _ = _
              simp only [Act.put, List.setIfInBounds_toArray, List.set_cons_zero, List.set_cons_succ]
              rfl
            have z1 := HB1.out.size
            have z2 := HB2.out.size
            have z3 := HB3.out.size
            have z4 := HB4.out.size
            have y4 := blk_lt HX4.out
            have y5 := blk_lt HX5.out
            exact hcont ⟨B1, d1, B3, d3, D1, e1, D3, e3, g4, g5⟩ _ ⟨(HWX.out.below HB4.out).lower (below_size (below_step HB1.out HB2.out)), HWY.out.lower (below_size (below_step (below_step HB1.out HB2.out) HB3.out)), (blk_below (blk_below (blk_below HX4.out HB2.out) HB3.out) HB4.out), (blk_below (blk_below HX5.out HB3.out) HB4.out), (show g4 ≠ g5 by omega), (show wd.heap.size ≤ g4 by omega), (show wd.heap.size ≤ g5 by omega), (below_step (below_step (below_step HB1.out HB2.out) HB3.out) HB4.out)⟩
        · refine box_step ?hg (N := 8) ?hd (cs := #[.int .i64 0, .slice none 0 0, .int .i64 0, .slice none 0 0]) (t := 38) ?hr ?_; (case hd => rfl); (case hg => rfl); (case hr => first | (go_simp; done) | (go_simp; rfl))
          intro g5 hg5 w11 hbox hb
          have HX5 := Aside0.mk hbox
          clear hbox
          have HB1 := Aside0.mk hb
          refine hK.out _ _ ⟨⟨(blk_cell (blk_below HFd.out HB1.out) 0).trans rfl, (blk_cell (blk_below HFd.out HB1.out) 1).trans rfl, (blk_cell (blk_below HFd.out HB1.out) 2).trans rfl, (blk_cell (blk_below HFd.out HB1.out) 3).trans rfl⟩, ⟨(blk_cell (blk_below HMd.out HB1.out) 0).trans rfl, (blk_cell (blk_below HMd.out HB1.out) 1).trans rfl, (blk_cell (blk_below HMd.out HB1.out) 2).trans rfl, (blk_cell (blk_below HMd.out HB1.out) 3).trans rfl⟩⟩ (fun hHeld => ?_)
          clear hK K hb hHeld
          refine norm_ (a' := ?_) ?_ ?_
          rotate_left
          · show Act.put _ (some 8) _ = _
            simp only [Act.put, List.setIfInBounds_toArray, List.set_cons_zero, List.set_cons_succ]
            rfl
          refine two_ (i := 1) (Ni := some 27) (j := 4) (Nj := some 7) #[true, true, true, false, false, true, false, false] #[true, false, true, false, true, true, false, false] rfl rfl rfl rfl (by kernel_rfl) (by decide) (by decide) (fun K hK => ?_) (fun K hK => ?_)
          · refine goes_ Tryd.func26 (by kernel_rfl) rfl #[.agg #[.int .i64 x.q, .slice A1 x.ls.length c1, .int .i64 x.k, .slice A3 x.cs.length c3]] (by rfl) rfl rfl (by (try simp only [List.map_toArray, List.map_cons, List.map_nil]); first | done | rfl) ?_
            refine (HC1.out _ HB1.out).mono ?_
            rintro e w12 ⟨B1, d1, B3, d3, rfl, hw, hb⟩
            have HWX := Aside0.mk hw
            clear hw
            have HB2 := Aside0.mk hb
            refine ⟨_, rfl, ?_⟩
            refine hK.out _ _ ⟨⟨(blk_cell (blk_below (blk_below HFd.out HB1.out) HB2.out) 0).trans rfl, (blk_cell (blk_below (blk_below HFd.out HB1.out) HB2.out) 1).trans rfl, (blk_cell (blk_below (blk_below HFd.out HB1.out) HB2.out) 2).trans rfl, (blk_cell (blk_below (blk_below HFd.out HB1.out) HB2.out) 3).trans rfl⟩, ⟨(blk_cell (blk_below (blk_below HMd.out HB1.out) HB2.out) 0).trans rfl, (blk_cell (blk_below (blk_below HMd.out HB1.out) HB2.out) 1).trans rfl, (blk_cell (blk_below (blk_below HMd.out HB1.out) HB2.out) 2).trans rfl, (blk_cell (blk_below (blk_below HMd.out HB1.out) HB2.out) 3).trans rfl⟩⟩ (fun hHeld => ?_)
            clear hK K hb hHeld
            refine norm_ (a' := ?_) ?_ ?_
            rotate_left
            · show Act.put _ (some 27) _ = _
              simp only [Act.put, List.setIfInBounds_toArray, List.set_cons_zero, List.set_cons_succ]
              rfl
            refine two_ (i := 3) (Ni := some 29) (j := 4) (Nj := some 7) #[true, true, true, true, false, true, false, false] #[true, true, true, false, true, true, false, false] rfl rfl rfl rfl (by kernel_rfl) (by decide) (by decide) (fun K hK => ?_) (fun K hK => ?_)
            · refine goes_ Tryd.func26 (by kernel_rfl) rfl #[.agg #[.int .i64 y.q, .slice E1 y.ls.length f1, .int .i64 y.k, .slice E3 y.cs.length f3]] (by rfl) rfl rfl (by (try simp only [List.map_toArray, List.map_cons, List.map_nil]); first | done | rfl) ?_
              refine (HC2.out _ (below_step HB1.out HB2.out)).mono ?_
              rintro e w13 ⟨D1, e1, D3, e3, rfl, hw, hb⟩
              have HWY := Aside0.mk hw
              clear hw
              have HB3 := Aside0.mk hb
              refine ⟨_, rfl, ?_⟩
              refine hK.out _ _ ⟨⟨(blk_cell (blk_below (blk_below (blk_below HFd.out HB1.out) HB2.out) HB3.out) 0).trans rfl, (blk_cell (blk_below (blk_below (blk_below HFd.out HB1.out) HB2.out) HB3.out) 1).trans rfl, (blk_cell (blk_below (blk_below (blk_below HFd.out HB1.out) HB2.out) HB3.out) 2).trans rfl, (blk_cell (blk_below (blk_below (blk_below HFd.out HB1.out) HB2.out) HB3.out) 3).trans rfl⟩, ⟨(blk_cell (blk_below (blk_below (blk_below HMd.out HB1.out) HB2.out) HB3.out) 0).trans rfl, (blk_cell (blk_below (blk_below (blk_below HMd.out HB1.out) HB2.out) HB3.out) 1).trans rfl, (blk_cell (blk_below (blk_below (blk_below HMd.out HB1.out) HB2.out) HB3.out) 2).trans rfl, (blk_cell (blk_below (blk_below (blk_below HMd.out HB1.out) HB2.out) HB3.out) 3).trans rfl⟩⟩ (fun hHeld => ?_)
              clear hK K hb hHeld
              refine norm_ (a' := ?_) ?_ ?_
              rotate_left
              · show Act.put _ (some 29) _ = _
                simp only [Act.put, List.setIfInBounds_toArray, List.set_cons_zero, List.set_cons_succ]
                rfl
              refine one_ (i := 4) (N := some 7) #[true, true, true, true, true, true, false, false] rfl rfl (by kernel_rfl) (by decide) (fun K hK => ?_)
              refine box_step ?hg (N := 7) ?hd (cs := #[.int .i64 0, .slice none 0 0, .int .i64 0, .slice none 0 0]) (t := 38) ?hr ?_; (case hd => rfl); (case hg => rfl); (case hr => first | (go_simp; done) | (go_simp; rfl))
              intro g4 hg4 w14 hbox hb
              have HX4 := Aside0.mk hbox
              clear hbox
              have HB4 := Aside0.mk hb
              refine hK.out _ _ ⟨⟨(blk_cell (blk_below (blk_below (blk_below (blk_below HFd.out HB1.out) HB2.out) HB3.out) HB4.out) 0).trans rfl, (blk_cell (blk_below (blk_below (blk_below (blk_below HFd.out HB1.out) HB2.out) HB3.out) HB4.out) 1).trans rfl, (blk_cell (blk_below (blk_below (blk_below (blk_below HFd.out HB1.out) HB2.out) HB3.out) HB4.out) 2).trans rfl, (blk_cell (blk_below (blk_below (blk_below (blk_below HFd.out HB1.out) HB2.out) HB3.out) HB4.out) 3).trans rfl⟩, ⟨(blk_cell (blk_below (blk_below (blk_below (blk_below HMd.out HB1.out) HB2.out) HB3.out) HB4.out) 0).trans rfl, (blk_cell (blk_below (blk_below (blk_below (blk_below HMd.out HB1.out) HB2.out) HB3.out) HB4.out) 1).trans rfl, (blk_cell (blk_below (blk_below (blk_below (blk_below HMd.out HB1.out) HB2.out) HB3.out) HB4.out) 2).trans rfl, (blk_cell (blk_below (blk_below (blk_below (blk_below HMd.out HB1.out) HB2.out) HB3.out) HB4.out) 3).trans rfl⟩⟩ (fun hHeld => ?_)
              clear hK K hb hHeld
              refine norm_ (a' := ?_) ?_ ?_
              rotate_left
              · show Act.put _ (some 7) _ = _
                simp only [Act.put, List.setIfInBounds_toArray, List.set_cons_zero, List.set_cons_succ]
                rfl
              have z1 := HB1.out.size
              have z2 := HB2.out.size
              have z3 := HB3.out.size
              have z4 := HB4.out.size
              have y4 := blk_lt HX4.out
              have y5 := blk_lt HX5.out
              exact hcont ⟨B1, d1, B3, d3, D1, e1, D3, e3, g4, g5⟩ _ ⟨((HWX.out.below HB3.out).below HB4.out).lower (below_size HB1.out), (HWY.out.below HB4.out).lower (below_size (below_step HB1.out HB2.out)), HX4.out, (blk_below (blk_below (blk_below HX5.out HB2.out) HB3.out) HB4.out), (show g4 ≠ g5 by omega), (show wd.heap.size ≤ g4 by omega), (show wd.heap.size ≤ g5 by omega), (below_step (below_step (below_step HB1.out HB2.out) HB3.out) HB4.out)⟩
            · refine box_step ?hg (N := 7) ?hd (cs := #[.int .i64 0, .slice none 0 0, .int .i64 0, .slice none 0 0]) (t := 38) ?hr ?_; (case hd => rfl); (case hg => rfl); (case hr => first | (go_simp; done) | (go_simp; rfl))
              intro g4 hg4 w13 hbox hb
              have HX4 := Aside0.mk hbox
              clear hbox
              have HB3 := Aside0.mk hb
              refine hK.out _ _ ⟨⟨(blk_cell (blk_below (blk_below (blk_below HFd.out HB1.out) HB2.out) HB3.out) 0).trans rfl, (blk_cell (blk_below (blk_below (blk_below HFd.out HB1.out) HB2.out) HB3.out) 1).trans rfl, (blk_cell (blk_below (blk_below (blk_below HFd.out HB1.out) HB2.out) HB3.out) 2).trans rfl, (blk_cell (blk_below (blk_below (blk_below HFd.out HB1.out) HB2.out) HB3.out) 3).trans rfl⟩, ⟨(blk_cell (blk_below (blk_below (blk_below HMd.out HB1.out) HB2.out) HB3.out) 0).trans rfl, (blk_cell (blk_below (blk_below (blk_below HMd.out HB1.out) HB2.out) HB3.out) 1).trans rfl, (blk_cell (blk_below (blk_below (blk_below HMd.out HB1.out) HB2.out) HB3.out) 2).trans rfl, (blk_cell (blk_below (blk_below (blk_below HMd.out HB1.out) HB2.out) HB3.out) 3).trans rfl⟩⟩ (fun hHeld => ?_)
              clear hK K hb hHeld
              refine norm_ (a' := ?_) ?_ ?_
              rotate_left
              · show Act.put _ (some 7) _ = _
                simp only [Act.put, List.setIfInBounds_toArray, List.set_cons_zero, List.set_cons_succ]
                rfl
              refine one_ (i := 3) (N := some 29) #[true, true, true, true, true, true, false, false] rfl rfl (by kernel_rfl) (by decide) (fun K hK => ?_)
              refine goes_ Tryd.func26 (by kernel_rfl) rfl #[.agg #[.int .i64 y.q, .slice E1 y.ls.length f1, .int .i64 y.k, .slice E3 y.cs.length f3]] (by rfl) rfl rfl (by (try simp only [List.map_toArray, List.map_cons, List.map_nil]); first | done | rfl) ?_
              refine (HC2.out _ (below_step (below_step HB1.out HB2.out) HB3.out)).mono ?_
              rintro e w14 ⟨D1, e1, D3, e3, rfl, hw, hb⟩
              have HWY := Aside0.mk hw
              clear hw
              have HB4 := Aside0.mk hb
              refine ⟨_, rfl, ?_⟩
              refine hK.out _ _ ⟨⟨(blk_cell (blk_below (blk_below (blk_below (blk_below HFd.out HB1.out) HB2.out) HB3.out) HB4.out) 0).trans rfl, (blk_cell (blk_below (blk_below (blk_below (blk_below HFd.out HB1.out) HB2.out) HB3.out) HB4.out) 1).trans rfl, (blk_cell (blk_below (blk_below (blk_below (blk_below HFd.out HB1.out) HB2.out) HB3.out) HB4.out) 2).trans rfl, (blk_cell (blk_below (blk_below (blk_below (blk_below HFd.out HB1.out) HB2.out) HB3.out) HB4.out) 3).trans rfl⟩, ⟨(blk_cell (blk_below (blk_below (blk_below (blk_below HMd.out HB1.out) HB2.out) HB3.out) HB4.out) 0).trans rfl, (blk_cell (blk_below (blk_below (blk_below (blk_below HMd.out HB1.out) HB2.out) HB3.out) HB4.out) 1).trans rfl, (blk_cell (blk_below (blk_below (blk_below (blk_below HMd.out HB1.out) HB2.out) HB3.out) HB4.out) 2).trans rfl, (blk_cell (blk_below (blk_below (blk_below (blk_below HMd.out HB1.out) HB2.out) HB3.out) HB4.out) 3).trans rfl⟩⟩ (fun hHeld => ?_)
              clear hK K hb hHeld
              refine norm_ (a' := ?_) ?_ ?_
              rotate_left
              · show Act.put _ (some 29) _ = _
                simp only [Act.put, List.setIfInBounds_toArray, List.set_cons_zero, List.set_cons_succ]
                rfl
              have z1 := HB1.out.size
              have z2 := HB2.out.size
              have z3 := HB3.out.size
              have z4 := HB4.out.size
              have y4 := blk_lt HX4.out
              have y5 := blk_lt HX5.out
              exact hcont ⟨B1, d1, B3, d3, D1, e1, D3, e3, g4, g5⟩ _ ⟨((HWX.out.below HB3.out).below HB4.out).lower (below_size HB1.out), HWY.out.lower (below_size (below_step (below_step HB1.out HB2.out) HB3.out)), (blk_below HX4.out HB4.out), (blk_below (blk_below (blk_below HX5.out HB2.out) HB3.out) HB4.out), (show g4 ≠ g5 by omega), (show wd.heap.size ≤ g4 by omega), (show wd.heap.size ≤ g5 by omega), (below_step (below_step (below_step HB1.out HB2.out) HB3.out) HB4.out)⟩
          · refine box_step ?hg (N := 7) ?hd (cs := #[.int .i64 0, .slice none 0 0, .int .i64 0, .slice none 0 0]) (t := 38) ?hr ?_; (case hd => rfl); (case hg => rfl); (case hr => first | (go_simp; done) | (go_simp; rfl))
            intro g4 hg4 w12 hbox hb
            have HX4 := Aside0.mk hbox
            clear hbox
            have HB2 := Aside0.mk hb
            refine hK.out _ _ ⟨⟨(blk_cell (blk_below (blk_below HFd.out HB1.out) HB2.out) 0).trans rfl, (blk_cell (blk_below (blk_below HFd.out HB1.out) HB2.out) 1).trans rfl, (blk_cell (blk_below (blk_below HFd.out HB1.out) HB2.out) 2).trans rfl, (blk_cell (blk_below (blk_below HFd.out HB1.out) HB2.out) 3).trans rfl⟩, ⟨(blk_cell (blk_below (blk_below HMd.out HB1.out) HB2.out) 0).trans rfl, (blk_cell (blk_below (blk_below HMd.out HB1.out) HB2.out) 1).trans rfl, (blk_cell (blk_below (blk_below HMd.out HB1.out) HB2.out) 2).trans rfl, (blk_cell (blk_below (blk_below HMd.out HB1.out) HB2.out) 3).trans rfl⟩⟩ (fun hHeld => ?_)
            clear hK K hb hHeld
            refine norm_ (a' := ?_) ?_ ?_
            rotate_left
            · show Act.put _ (some 7) _ = _
              simp only [Act.put, List.setIfInBounds_toArray, List.set_cons_zero, List.set_cons_succ]
              rfl
            refine one_ (i := 1) (N := some 27) #[true, true, true, false, true, true, false, false] rfl rfl (by kernel_rfl) (by decide) (fun K hK => ?_)
            refine goes_ Tryd.func26 (by kernel_rfl) rfl #[.agg #[.int .i64 x.q, .slice A1 x.ls.length c1, .int .i64 x.k, .slice A3 x.cs.length c3]] (by rfl) rfl rfl (by (try simp only [List.map_toArray, List.map_cons, List.map_nil]); first | done | rfl) ?_
            refine (HC1.out _ (below_step HB1.out HB2.out)).mono ?_
            rintro e w13 ⟨B1, d1, B3, d3, rfl, hw, hb⟩
            have HWX := Aside0.mk hw
            clear hw
            have HB3 := Aside0.mk hb
            refine ⟨_, rfl, ?_⟩
            refine hK.out _ _ ⟨⟨(blk_cell (blk_below (blk_below (blk_below HFd.out HB1.out) HB2.out) HB3.out) 0).trans rfl, (blk_cell (blk_below (blk_below (blk_below HFd.out HB1.out) HB2.out) HB3.out) 1).trans rfl, (blk_cell (blk_below (blk_below (blk_below HFd.out HB1.out) HB2.out) HB3.out) 2).trans rfl, (blk_cell (blk_below (blk_below (blk_below HFd.out HB1.out) HB2.out) HB3.out) 3).trans rfl⟩, ⟨(blk_cell (blk_below (blk_below (blk_below HMd.out HB1.out) HB2.out) HB3.out) 0).trans rfl, (blk_cell (blk_below (blk_below (blk_below HMd.out HB1.out) HB2.out) HB3.out) 1).trans rfl, (blk_cell (blk_below (blk_below (blk_below HMd.out HB1.out) HB2.out) HB3.out) 2).trans rfl, (blk_cell (blk_below (blk_below (blk_below HMd.out HB1.out) HB2.out) HB3.out) 3).trans rfl⟩⟩ (fun hHeld => ?_)
            clear hK K hb hHeld
            refine norm_ (a' := ?_) ?_ ?_
            rotate_left
            · show Act.put _ (some 27) _ = _
              simp only [Act.put, List.setIfInBounds_toArray, List.set_cons_zero, List.set_cons_succ]
              rfl
            refine one_ (i := 3) (N := some 29) #[true, true, true, true, true, true, false, false] rfl rfl (by kernel_rfl) (by decide) (fun K hK => ?_)
            refine goes_ Tryd.func26 (by kernel_rfl) rfl #[.agg #[.int .i64 y.q, .slice E1 y.ls.length f1, .int .i64 y.k, .slice E3 y.cs.length f3]] (by rfl) rfl rfl (by (try simp only [List.map_toArray, List.map_cons, List.map_nil]); first | done | rfl) ?_
            refine (HC2.out _ (below_step (below_step HB1.out HB2.out) HB3.out)).mono ?_
            rintro e w14 ⟨D1, e1, D3, e3, rfl, hw, hb⟩
            have HWY := Aside0.mk hw
            clear hw
            have HB4 := Aside0.mk hb
            refine ⟨_, rfl, ?_⟩
            refine hK.out _ _ ⟨⟨(blk_cell (blk_below (blk_below (blk_below (blk_below HFd.out HB1.out) HB2.out) HB3.out) HB4.out) 0).trans rfl, (blk_cell (blk_below (blk_below (blk_below (blk_below HFd.out HB1.out) HB2.out) HB3.out) HB4.out) 1).trans rfl, (blk_cell (blk_below (blk_below (blk_below (blk_below HFd.out HB1.out) HB2.out) HB3.out) HB4.out) 2).trans rfl, (blk_cell (blk_below (blk_below (blk_below (blk_below HFd.out HB1.out) HB2.out) HB3.out) HB4.out) 3).trans rfl⟩, ⟨(blk_cell (blk_below (blk_below (blk_below (blk_below HMd.out HB1.out) HB2.out) HB3.out) HB4.out) 0).trans rfl, (blk_cell (blk_below (blk_below (blk_below (blk_below HMd.out HB1.out) HB2.out) HB3.out) HB4.out) 1).trans rfl, (blk_cell (blk_below (blk_below (blk_below (blk_below HMd.out HB1.out) HB2.out) HB3.out) HB4.out) 2).trans rfl, (blk_cell (blk_below (blk_below (blk_below (blk_below HMd.out HB1.out) HB2.out) HB3.out) HB4.out) 3).trans rfl⟩⟩ (fun hHeld => ?_)
            clear hK K hb hHeld
            refine norm_ (a' := ?_) ?_ ?_
            rotate_left
            · show Act.put _ (some 29) _ = _
              simp only [Act.put, List.setIfInBounds_toArray, List.set_cons_zero, List.set_cons_succ]
              rfl
            have z1 := HB1.out.size
            have z2 := HB2.out.size
            have z3 := HB3.out.size
            have z4 := HB4.out.size
            have y4 := blk_lt HX4.out
            have y5 := blk_lt HX5.out
            exact hcont ⟨B1, d1, B3, d3, D1, e1, D3, e3, g4, g5⟩ _ ⟨(HWX.out.below HB4.out).lower (below_size (below_step HB1.out HB2.out)), HWY.out.lower (below_size (below_step (below_step HB1.out HB2.out) HB3.out)), (blk_below (blk_below HX4.out HB3.out) HB4.out), (blk_below (blk_below (blk_below HX5.out HB2.out) HB3.out) HB4.out), (show g4 ≠ g5 by omega), (show wd.heap.size ≤ g4 by omega), (show wd.heap.size ≤ g5 by omega), (below_step (below_step (below_step HB1.out HB2.out) HB3.out) HB4.out)⟩
      intro s W' hF
      obtain ⟨hWX, hWY, hp, hq, hpq, hpz, hqz, hB⟩ := hF
      obtain ⟨B1, d1, B3, d3, D1, e1, D3, e3, p, q⟩ := s
      dsimp only at hWX hWY hp hq hpq hpz hqz
      refine norm_ (a' := ?_) ?_ ?_
      rotate_left
      · simp only [putAll, Act.put, List.setIfInBounds_toArray, List.set_cons_zero, List.set_cons_succ]
        rfl
      have pc0 : W'.cell? ⟨p, 0, none⟩ = some (.int .i64 0) := (blk_cell hp 0).trans rfl
      have pce0 : W'.frozen? ⟨p, 0, none⟩ = false := blk_frozen hp 0
      have pc1 : W'.cell? ⟨p, 1, none⟩ = some (.slice none 0 0) := (blk_cell hp 1).trans rfl
      have pce1 : W'.frozen? ⟨p, 1, none⟩ = false := blk_frozen hp 1
      have pc2 : W'.cell? ⟨p, 2, none⟩ = some (.int .i64 0) := (blk_cell hp 2).trans rfl
      have pce2 : W'.frozen? ⟨p, 2, none⟩ = false := blk_frozen hp 2
      have pc3 : W'.cell? ⟨p, 3, none⟩ = some (.slice none 0 0) := (blk_cell hp 3).trans rfl
      have pce3 : W'.frozen? ⟨p, 3, none⟩ = false := blk_frozen hp 3
      refine last_ (i := 6) (N := none) #[true, true, true, true, true, true, true, false] rfl rfl (by kernel_rfl) (by decide) (fun K hK => ?_)
      refine skip_ (w1 := put4_ W' p (.int .i64 x.q) (.slice B1 x.ls.length d1) (.int .i64 x.k) (.slice B3 x.cs.length d3)) (by rfl) rfl (by go_simp; rfl) ?_
      refine hK.out _ _ ?_
      clear hK K pc0 pce0 pc1 pce1 pc2 pce2 pc3 pce3
      have h1_ := put4_blk (a := .int .i64 x.q) (b := .slice B1 x.ls.length d1) (c := .int .i64 x.k) (d := .slice B3 x.cs.length d3) hp
      have h2_ := put4_off (g := p) (a := .int .i64 x.q) (b := .slice B1 x.ls.length d1) (c := .int .i64 x.k) (d := .slice B3 x.cs.length d3) hq (Ne.symm hpq)
      have h3_ := put4_WrL (a := .int .i64 x.q) (b := .slice B1 x.ls.length d1) (c := .int .i64 x.k) (d := .slice B3 x.cs.length d3) hWX hp
      have h4_ := put4_WrL (a := .int .i64 x.q) (b := .slice B1 x.ls.length d1) (c := .int .i64 x.k) (d := .slice B3 x.cs.length d3) hWY hp
      have h5_ := put4_below (a := .int .i64 x.q) (b := .slice B1 x.ls.length d1) (c := .int .i64 x.k) (d := .slice B3 x.cs.length d3) hB (show wd.heap.size ≤ p by omega)
      clear hp hq hWX hWY hB
      generalize put4_ W' p (.int .i64 x.q) (.slice B1 x.ls.length d1) (.int .i64 x.k) (.slice B3 x.cs.length d3) = W2' at h1_ h2_ h3_ h4_ h5_ ⊢
      have hp := h1_
      have hq := h2_
      have hWX := h3_
      have hWY := h4_
      have hB := h5_
      clear h1_ h2_ h3_ h4_ h5_
      have pc0 : W2'.cell? ⟨q, 0, none⟩ = some (.int .i64 0) := (blk_cell hq 0).trans rfl
      have pce0 : W2'.frozen? ⟨q, 0, none⟩ = false := blk_frozen hq 0
      have pc1 : W2'.cell? ⟨q, 1, none⟩ = some (.slice none 0 0) := (blk_cell hq 1).trans rfl
      have pce1 : W2'.frozen? ⟨q, 1, none⟩ = false := blk_frozen hq 1
      have pc2 : W2'.cell? ⟨q, 2, none⟩ = some (.int .i64 0) := (blk_cell hq 2).trans rfl
      have pce2 : W2'.frozen? ⟨q, 2, none⟩ = false := blk_frozen hq 2
      have pc3 : W2'.cell? ⟨q, 3, none⟩ = some (.slice none 0 0) := (blk_cell hq 3).trans rfl
      have pce3 : W2'.frozen? ⟨q, 3, none⟩ = false := blk_frozen hq 3
      refine last_ (i := 7) (N := none) #[true, true, true, true, true, true, true, true] rfl rfl (by kernel_rfl) (by decide) (fun K hK => ?_)
      refine skip_ (w1 := put4_ W2' q (.int .i64 y.q) (.slice D1 y.ls.length e1) (.int .i64 y.k) (.slice D3 y.cs.length e3)) (by rfl) rfl (by go_simp; rfl) ?_
      refine hK.out _ _ ?_
      clear hK K pc0 pce0 pc1 pce1 pc2 pce2 pc3 pce3
      have h1_ := put4_blk (a := .int .i64 y.q) (b := .slice D1 y.ls.length e1) (c := .int .i64 y.k) (d := .slice D3 y.cs.length e3) hq
      have h2_ := put4_off (g := q) (a := .int .i64 y.q) (b := .slice D1 y.ls.length e1) (c := .int .i64 y.k) (d := .slice D3 y.cs.length e3) hp (hpq)
      have h3_ := put4_WrL (a := .int .i64 y.q) (b := .slice D1 y.ls.length e1) (c := .int .i64 y.k) (d := .slice D3 y.cs.length e3) hWX hq
      have h4_ := put4_WrL (a := .int .i64 y.q) (b := .slice D1 y.ls.length e1) (c := .int .i64 y.k) (d := .slice D3 y.cs.length e3) hWY hq
      have h5_ := put4_below (a := .int .i64 y.q) (b := .slice D1 y.ls.length e1) (c := .int .i64 y.k) (d := .slice D3 y.cs.length e3) hB (show wd.heap.size ≤ q by omega)
      clear hp hq hWX hWY hB
      generalize put4_ W2' q (.int .i64 y.q) (.slice D1 y.ls.length e1) (.int .i64 y.k) (.slice D3 y.cs.length e3) = V at h1_ h2_ h3_ h4_ h5_ ⊢
      have hq := h1_
      have hp := h2_
      have hWX := h3_
      have hWY := h4_
      have hB := h5_
      clear h1_ h2_ h3_ h4_ h5_
      refine done_ (by kernel_rfl) ?_
      have HL := Aside0.mk (blk_below HFd.out hB)
      have HM := Aside0.mk (blk_below HMd.out hB)
      have HP := Aside0.mk hp
      have HQ := Aside0.mk hq
      have HB := Aside0.mk (below_step HBd.out hB)
      have HWX := Aside0.mk hWX
      have HWY := Aside0.mk hWY
      clear hp hq hpq hpz hqz hWX hWY hB HFd HMd HBd HC1 HC2
      obtain ⟨r, hr⟩ : ∃ r, splitR x at_ = r := ⟨_, rfl⟩
      have HS := Aside0.mk (split_calls_ x at_ _ V (HX.out.below HB.out) HZ.out (HG.out.below HB.out))
      have HRS := Aside0.mk (fun W' (hW : Below V.heap.size V W') => refsplit_calls_ x at_ _ W' (HWX.out.rd.below hW) HZ.out)
      have hsz := Sz_split HZ.out at_
      rw [hr] at HS HRS hsz
      clear hr
      obtain ⟨a, b, ee⟩ := r
      have HZA := Aside0.mk hsz.1
      have HZB := Aside0.mk hsz.2
      have fl := HL.out
      have l0 : V.cell? ⟨w.heap.size, 0, none⟩ = some (.int .i64 x.q) := (blk_cell fl 0).trans rfl
      have l1 : V.cell? ⟨w.heap.size, 1, none⟩ = some (.slice A1 x.ls.length c1) := (blk_cell fl 1).trans rfl
      have l2 : V.cell? ⟨w.heap.size, 2, none⟩ = some (.int .i64 x.k) := (blk_cell fl 2).trans rfl
      have l3 : V.cell? ⟨w.heap.size, 3, none⟩ = some (.slice A3 x.cs.length c3) := (blk_cell fl 3).trans rfl
      clear fl hsz
      go_upto_region 5 with (go_at_call 27; refine HS.out.mono ?_; rintro e w4 ⟨P1, P1', P3, P3', Q1, Q1', Q3, Q3', rfl, hwa, hwb, hp1, hp3, hb⟩; have HWA := Aside0.mk hwa; have HWB := Aside0.mk hwb; have HP1 := Aside0.mk hp1; have HP3 := Aside0.mk hp3; have HB4 := Aside0.mk hb; clear hwa hwb hp1 hp3 hb)
      obtain ⟨FA, FBx, FL⟩ := two_boxes_ w4 (.cells #[.int .i64 a.q, .slice P1 a.ls.length P1', .int .i64 a.k, .slice P3 a.cs.length P3'] 38) (.cells #[.int .i64 b.q, .slice Q1 b.ls.length Q1', .int .i64 b.k, .slice Q3 b.cs.length Q3'] 38)
      have HA5 := Aside0.mk (HWA.out.below FL)
      have HB5 := Aside0.mk (HWB.out.below FL)
      have HV5 := Aside0.mk (below_step HB4.out FL)
      generalize (w4.alloc (.cells #[.int .i64 a.q, .slice P1 a.ls.length P1', .int .i64 a.k, .slice P3 a.cs.length P3'] 38)).alloc (.cells #[.int .i64 b.q, .slice Q1 b.ls.length Q1', .int .i64 b.k, .slice Q3 b.cs.length Q3'] 38) = W5 at FA FBx FL HA5 HB5 HV5 ⊢
      generalize w4.heap.size = na at FA FBx ⊢
      have HFA := Aside0.mk FA
      have HFBx := Aside0.mk FBx
      clear FL HS HB4 HWA HWB FA FBx l0 l1 l2 l3
      have HS := Aside0.mk (HRS.out W5 HV5.out)
      have fs := blk_below HP.out HV5.out
      have m0 : W5.cell? ⟨p, 0, none⟩ = some (.int .i64 x.q) := (blk_cell fs 0).trans rfl
      have m1 : W5.cell? ⟨p, 1, none⟩ = some (.slice B1 x.ls.length d1) := (blk_cell fs 1).trans rfl
      have m2 : W5.cell? ⟨p, 2, none⟩ = some (.int .i64 x.k) := (blk_cell fs 2).trans rfl
      have m3 : W5.cell? ⟨p, 3, none⟩ = some (.slice B3 x.cs.length d3) := (blk_cell fs 3).trans rfl
      clear fs HRS
      go_upto_region 6 with (go_at_call 28; refine HS.out.mono ?_; rintro e w6 ⟨C1, C1', C3, C3', H1, H1', H3, H3', rfl, hwa, hwb, hb⟩; have HWC := Aside0.mk hwa; have HWD := Aside0.mk hwb; have HB6 := Aside0.mk hb; clear hwa hwb hb)
      obtain ⟨FC, FDx, FL⟩ := two_boxes_ w6 (.cells #[.int .i64 a.q, .slice C1 a.ls.length C1', .int .i64 a.k, .slice C3 a.cs.length C3'] 38) (.cells #[.int .i64 b.q, .slice H1 b.ls.length H1', .int .i64 b.k, .slice H3 b.cs.length H3'] 38)
      have HWA := HA5
      have HWA7 := Aside0.mk ((HA5.out.below HB6.out).below FL)
      have HWB7 := Aside0.mk ((HB5.out.below HB6.out).below FL)
      have HWC7 := Aside0.mk (HWC.out.below FL)
      have HWD7 := Aside0.mk (HWD.out.below FL)
      have HV7 := Aside0.mk (below_step (below_step HV5.out HB6.out) FL)
      have FA7 := blk_below (blk_below HFA.out HB6.out) FL
      have HFB7 := Aside0.mk (blk_below (blk_below HFBx.out HB6.out) FL)
      generalize (w6.alloc (.cells #[.int .i64 a.q, .slice C1 a.ls.length C1', .int .i64 a.k, .slice C3 a.cs.length C3'] 38)).alloc (.cells #[.int .i64 b.q, .slice H1 b.ls.length H1', .int .i64 b.k, .slice H3 b.cs.length H3'] 38) = W7 at FC FDx FL HWA7 HWB7 HWC7 HWD7 HV7 FA7 HFB7 ⊢
      generalize w6.heap.size = nc at FC FDx ⊢
      have HFD7 := Aside0.mk FDx
      have n0 : W7.cell? ⟨na, 0, none⟩ = some (.int .i64 a.q) := (blk_cell FA7 0).trans rfl
      have n1 : W7.cell? ⟨na, 1, none⟩ = some (.slice P1 a.ls.length P1') := (blk_cell FA7 1).trans rfl
      have n2 : W7.cell? ⟨na, 2, none⟩ = some (.int .i64 a.k) := (blk_cell FA7 2).trans rfl
      have n3 : W7.cell? ⟨na, 3, none⟩ = some (.slice P3 a.cs.length P3') := (blk_cell FA7 3).trans rfl
      have o0 : W7.cell? ⟨nc, 0, none⟩ = some (.int .i64 a.q) := (blk_cell FC 0).trans rfl
      have o1 : W7.cell? ⟨nc, 1, none⟩ = some (.slice C1 a.ls.length C1') := (blk_cell FC 1).trans rfl
      have o2 : W7.cell? ⟨nc, 2, none⟩ = some (.int .i64 a.k) := (blk_cell FC 2).trans rfl
      have o3 : W7.cell? ⟨nc, 3, none⟩ = some (.slice C3 a.cs.length C3') := (blk_cell FC 3).trans rfl
      have HI1 := Aside0.mk (is_calls_ a a ee ee _ _ W7 V.heap.size HWA7.out HWC7.out.rd HZA.out HV7.out.size)
      rw [show (decide (ee = ee) && sameL a a) = true by rw [sameL_iff.2 rfl]; simp] at HI1
      clear FL FC FDx FA7 HS HA5 HB5 HB6 HV5 HFA HFBx HWC HWD m0 m1 m2 m3
      go_upto_region 8 with (first | (have h_ := HV8; clear h_; go_at_call 29; refine HI2.out.mono ?_; rintro e W9 ⟨rfl, hb, _, _⟩; have HV9 := Aside0.mk (HV8.out.trans hb); clear hb) | (go_at_call 29; refine HI1.out.mono ?_; rintro e W8 ⟨rfl, hb, hx, hs⟩; have HV8 := Aside0.mk (HV7.out.trans hb); have fb := hx _ _ HFB7.out; have fd := hx _ _ HFD7.out; have r0 : W8.cell? ⟨na + 1, 0, none⟩ = some (.int .i64 b.q) := (blk_cell fb 0).trans rfl; have r1 : W8.cell? ⟨na + 1, 1, none⟩ = some (.slice Q1 b.ls.length Q1') := (blk_cell fb 1).trans rfl; have r2 : W8.cell? ⟨na + 1, 2, none⟩ = some (.int .i64 b.k) := (blk_cell fb 2).trans rfl; have r3 : W8.cell? ⟨na + 1, 3, none⟩ = some (.slice Q3 b.cs.length Q3') := (blk_cell fb 3).trans rfl; have t0 : W8.cell? ⟨nc + 1, 0, none⟩ = some (.int .i64 b.q) := (blk_cell fd 0).trans rfl; have t1 : W8.cell? ⟨nc + 1, 1, none⟩ = some (.slice H1 b.ls.length H1') := (blk_cell fd 1).trans rfl; have t2 : W8.cell? ⟨nc + 1, 2, none⟩ = some (.int .i64 b.k) := (blk_cell fd 2).trans rfl; have t3 : W8.cell? ⟨nc + 1, 3, none⟩ = some (.slice H3 b.cs.length H3') := (blk_cell fd 3).trans rfl; have HI2 := Aside0.mk (is_calls_ b b ee ee _ _ W8 V.heap.size (HWA7.out.spared HWB7.out HP1.out HP3.out hs) (HWA.out.spared_elder (Nat.le_refl _) HWD7.out hs).rd HZB.out HV8.out.size); rw [show (decide (ee = ee) && sameL b b) = true by rw [sameL_iff.2 rfl]; simp] at HI2; clear hb hx hs fb fd HI1))
      clear HI2 HV7 HV8 HWA HWA7 HWB7 HWC7 HWD7 HFB7 HFD7 HP1 HP3 HZA HZB n0 n1 n2 n3 o0 o1 o2 o3 r0 r1 r2 r3 t0 t1 t2 t3
      obtain ⟨r, hr⟩ : ∃ r, joinR x y = r := ⟨_, rfl⟩
      have HJ := Aside0.mk (join_calls_ x y _ _ W9 (HX.out.below (below_step HB.out HV9.out)) (HY.out.below (below_step HB.out HV9.out)) HZ.out HZY.out (HG.out.below (below_step HB.out HV9.out)))
      have HRJ := Aside0.mk (fun W' (hW : Below V.heap.size V W') => refjoin_calls_ x y _ _ W' (HWX.out.rd.below hW) (HWY.out.rd.below hW) HZ.out HZY.out)
      rw [hr] at HJ HRJ HSJ
      clear hr
      obtain ⟨j, ge⟩ := r
      have fl := blk_below HL.out HV9.out
      have fm := blk_below HM.out HV9.out
      have l0 : W9.cell? ⟨w.heap.size, 0, none⟩ = some (.int .i64 x.q) := (blk_cell fl 0).trans rfl
      have l1 : W9.cell? ⟨w.heap.size, 1, none⟩ = some (.slice A1 x.ls.length c1) := (blk_cell fl 1).trans rfl
      have l2 : W9.cell? ⟨w.heap.size, 2, none⟩ = some (.int .i64 x.k) := (blk_cell fl 2).trans rfl
      have l3 : W9.cell? ⟨w.heap.size, 3, none⟩ = some (.slice A3 x.cs.length c3) := (blk_cell fl 3).trans rfl
      have m0 : W9.cell? ⟨w.heap.size + 1, 0, none⟩ = some (.int .i64 y.q) := (blk_cell fm 0).trans rfl
      have m1 : W9.cell? ⟨w.heap.size + 1, 1, none⟩ = some (.slice E1 y.ls.length f1) := (blk_cell fm 1).trans rfl
      have m2 : W9.cell? ⟨w.heap.size + 1, 2, none⟩ = some (.int .i64 y.k) := (blk_cell fm 2).trans rfl
      have m3 : W9.cell? ⟨w.heap.size + 1, 3, none⟩ = some (.slice E3 y.cs.length f3) := (blk_cell fm 3).trans rfl
      clear fl fm
      go_upto_region 9 with (go_at_call 30; refine HJ.out.mono ?_; rintro e w10 hbk; obtain ⟨G1, G1', G3, G3', rfl, hw, hb⟩ := hbk.low (w := w); have HWJ := Aside0.mk hw; have HB10 := Aside0.mk hb; clear hw hb)
      have FX := heap_alloc_new w10 (.cells #[.int .i64 j.q, .slice G1 j.ls.length G1', .int .i64 j.k, .slice G3 j.cs.length G3'] 38)
      have FL := below_alloc (Below.refl w10.heap.size w10) (.cells #[.int .i64 j.q, .slice G1 j.ls.length G1', .int .i64 j.k, .slice G3 j.cs.length G3'] 38)
      have HWJ11 := Aside0.mk (HWJ.out.below FL)
      have HB11 := Aside0.mk (below_step HB10.out FL)
      have HV11 := Aside0.mk (below_step HV9.out HB11.out)
      generalize w10.alloc (.cells #[.int .i64 j.q, .slice G1 j.ls.length G1', .int .i64 j.k, .slice G3 j.cs.length G3'] 38) = W11 at FX FL HWJ11 HB11 HV11 ⊢
      generalize w10.heap.size = nx at FX ⊢
      have HFX := Aside0.mk FX
      have fs := blk_below HP.out HV11.out
      have fo := blk_below HQ.out HV11.out
      have n0 : W11.cell? ⟨p, 0, none⟩ = some (.int .i64 x.q) := (blk_cell fs 0).trans rfl
      have n1 : W11.cell? ⟨p, 1, none⟩ = some (.slice B1 x.ls.length d1) := (blk_cell fs 1).trans rfl
      have n2 : W11.cell? ⟨p, 2, none⟩ = some (.int .i64 x.k) := (blk_cell fs 2).trans rfl
      have n3 : W11.cell? ⟨p, 3, none⟩ = some (.slice B3 x.cs.length d3) := (blk_cell fs 3).trans rfl
      have o0 : W11.cell? ⟨q, 0, none⟩ = some (.int .i64 y.q) := (blk_cell fo 0).trans rfl
      have o1 : W11.cell? ⟨q, 1, none⟩ = some (.slice D1 y.ls.length e1) := (blk_cell fo 1).trans rfl
      have o2 : W11.cell? ⟨q, 2, none⟩ = some (.int .i64 y.k) := (blk_cell fo 2).trans rfl
      have o3 : W11.cell? ⟨q, 3, none⟩ = some (.slice D3 y.cs.length e3) := (blk_cell fo 3).trans rfl
      clear FX FL fs fo HJ HWJ HB10 l0 l1 l2 l3 m0 m1 m2 m3
      have HJ := Aside0.mk (HRJ.out W11 HV11.out)
      clear HRJ
      go_upto_region 10 with (go_at_call 31; refine HJ.out.mono ?_; rintro e w12 hbk; obtain ⟨K1, K1', K3, K3', rfl, hw, hb⟩ := hbk.low (w := w); have HWK := Aside0.mk hw; have HB12 := Aside0.mk hb; clear hw hb)
      have FY := heap_alloc_new w12 (.cells #[.int .i64 j.q, .slice K1 j.ls.length K1', .int .i64 j.k, .slice K3 j.cs.length K3'] 38)
      have FL := below_alloc (Below.refl w12.heap.size w12) (.cells #[.int .i64 j.q, .slice K1 j.ls.length K1', .int .i64 j.k, .slice K3 j.cs.length K3'] 38)
      have HWK13 := Aside0.mk (HWK.out.rd.below FL)
      have HWJ13 := Aside0.mk ((HWJ11.out.below HB12.out).below FL)
      have HV13 := Aside0.mk (below_step (below_step HV11.out HB12.out) FL)
      have HS13 := Aside0.mk (Nat.le_trans HB11.out.size (Nat.le_trans HB12.out.size FL.size))
      have FX := blk_below (blk_below HFX.out HB12.out) FL
      generalize w12.alloc (.cells #[.int .i64 j.q, .slice K1 j.ls.length K1', .int .i64 j.k, .slice K3 j.cs.length K3'] 38) = W13 at FY FL HWK13 HWJ13 HV13 HS13 FX ⊢
      generalize w12.heap.size = ny at FY ⊢
      have k0 : W13.cell? ⟨nx, 0, none⟩ = some (.int .i64 j.q) := (blk_cell FX 0).trans rfl
      have k1 : W13.cell? ⟨nx, 1, none⟩ = some (.slice G1 j.ls.length G1') := (blk_cell FX 1).trans rfl
      have k2 : W13.cell? ⟨nx, 2, none⟩ = some (.int .i64 j.k) := (blk_cell FX 2).trans rfl
      have k3 : W13.cell? ⟨nx, 3, none⟩ = some (.slice G3 j.cs.length G3') := (blk_cell FX 3).trans rfl
      have i0 : W13.cell? ⟨ny, 0, none⟩ = some (.int .i64 j.q) := (blk_cell FY 0).trans rfl
      have i1 : W13.cell? ⟨ny, 1, none⟩ = some (.slice K1 j.ls.length K1') := (blk_cell FY 1).trans rfl
      have i2 : W13.cell? ⟨ny, 2, none⟩ = some (.int .i64 j.k) := (blk_cell FY 2).trans rfl
      have i3 : W13.cell? ⟨ny, 3, none⟩ = some (.slice K3 j.cs.length K3') := (blk_cell FY 3).trans rfl
      have HI3 := Aside0.mk (is_calls_ j j ge ge _ _ W13 W9.heap.size HWJ13.out HWK13.out HSJ.out HS13.out)
      rw [show (decide (ge = ge) && sameL j j) = true by rw [sameL_iff.2 rfl]; simp] at HI3
      clear FX FY FL HJ HWK HB12 HV11 HB11 HWJ11 HFX HWK13 HWJ13 HS13 HSJ n0 n1 n2 n3 o0 o1 o2 o3
      go_wp2_with (first | (have h_ := HV15; clear h_; go_at_call 32; refine HSM.out.mono ?_; rintro e W16 ⟨rfl, hb⟩; have HV16 := Aside0.mk (below_step HV15.out hb); clear hb) | (have h_ := HV14; clear h_; go_at_call 32; refine HSL.out.mono ?_; rintro e W15 ⟨rfl, hb⟩; have HV15 := Aside0.mk (below_step HV14.out hb); have fl := blk_below HM.out HV15.out; have u0 : W15.cell? ⟨w.heap.size + 1, 0, none⟩ = some (.int .i64 y.q) := (blk_cell fl 0).trans rfl; have u1 : W15.cell? ⟨w.heap.size + 1, 1, none⟩ = some (.slice E1 y.ls.length f1) := (blk_cell fl 1).trans rfl; have u2 : W15.cell? ⟨w.heap.size + 1, 2, none⟩ = some (.int .i64 y.k) := (blk_cell fl 2).trans rfl; have u3 : W15.cell? ⟨w.heap.size + 1, 3, none⟩ = some (.slice E3 y.cs.length f3) := (blk_cell fl 3).trans rfl; have fs := blk_below HQ.out HV15.out; have z0 : W15.cell? ⟨q, 0, none⟩ = some (.int .i64 y.q) := (blk_cell fs 0).trans rfl; have z1 : W15.cell? ⟨q, 1, none⟩ = some (.slice D1 y.ls.length e1) := (blk_cell fs 1).trans rfl; have z2 : W15.cell? ⟨q, 2, none⟩ = some (.int .i64 y.k) := (blk_cell fs 2).trans rfl; have z3 : W15.cell? ⟨q, 3, none⟩ = some (.slice D3 y.cs.length e3) := (blk_cell fs 3).trans rfl; have HSM := Aside0.mk (refsame_calls_ y y _ _ W15 (HY.out.below (below_step HB.out HV15.out)) (HWY.out.below HV15.out).rd HZY.out); rw [sameL_iff.2 rfl] at HSM; clear hb fl fs HSL) | (go_at_call 29; refine HI3.out.mono ?_; rintro e W14 ⟨rfl, hb, _, _⟩; have HV14 := Aside0.mk (HV13.out.trans (hb.mono HV9.out.size)); have fl := blk_below HL.out HV14.out; have r0 : W14.cell? ⟨w.heap.size, 0, none⟩ = some (.int .i64 x.q) := (blk_cell fl 0).trans rfl; have r1 : W14.cell? ⟨w.heap.size, 1, none⟩ = some (.slice A1 x.ls.length c1) := (blk_cell fl 1).trans rfl; have r2 : W14.cell? ⟨w.heap.size, 2, none⟩ = some (.int .i64 x.k) := (blk_cell fl 2).trans rfl; have r3 : W14.cell? ⟨w.heap.size, 3, none⟩ = some (.slice A3 x.cs.length c3) := (blk_cell fl 3).trans rfl; have fs := blk_below HP.out HV14.out; have t0 : W14.cell? ⟨p, 0, none⟩ = some (.int .i64 x.q) := (blk_cell fs 0).trans rfl; have t1 : W14.cell? ⟨p, 1, none⟩ = some (.slice B1 x.ls.length d1) := (blk_cell fs 1).trans rfl; have t2 : W14.cell? ⟨p, 2, none⟩ = some (.int .i64 x.k) := (blk_cell fs 2).trans rfl; have t3 : W14.cell? ⟨p, 3, none⟩ = some (.slice B3 x.cs.length d3) := (blk_cell fs 3).trans rfl; have HSL := Aside0.mk (refsame_calls_ x x _ _ W14 (HX.out.below (below_step HB.out HV14.out)) (HWX.out.below HV14.out).rd HZ.out); rw [sameL_iff.2 rfl] at HSL; clear hb fl fs) | (go_at_call 25; refine (HAW.out _ (below_step HB.out HV16.out)).mono ?_; rintro e wz ⟨rfl, hb⟩; have HBZ := Aside0.mk hb; clear hb))
      go_ret
      exact ⟨rfl, below_step (below_step HB.out HV16.out) HBZ.out⟩
end Go.Proofs.YtgdpknmffohhaaaDoor.Pl
