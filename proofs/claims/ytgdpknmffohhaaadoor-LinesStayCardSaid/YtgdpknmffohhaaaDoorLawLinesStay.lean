/- LinesStay, walked. -/
import Derived.Test.YtgdpknmffohhaaaDoorLineTurnAll
import Derived.Test.YtgdpknmffohhaaaDoorLineAwake
namespace Go.Proofs.YtgdpknmffohhaaaDoor.Pl
open Go.RowKit Go.Lib Go.Proofs.YtgdpknmffohhaaaDoorW.PrintWords Go.Proofs.YtgdpknmffohhaaaDoorW.PrintLast Go.Proofs.YtgdpknmffohhaaaDoorW.PrintMore
set_option linter.unusedVariables false
/-- what a region that calls and makes a box has made -/
structure SpT where
  B1 : Option Addr
  d1 : Nat
  B3 : Option Addr
  d3 : Nat
  p : Nat
def SpTF (wd : World) (y : Ln) (s : SpT) (W : World) : Prop :=
  WrL W wd.heap.size (.agg #[.int .i64 y.q, .slice s.B1 y.ls.length s.d1, .int .i64 y.k, .slice s.B3 y.cs.length s.d3]) y ∧ W.heap[s.p]? = some (.cells #[.int .i64 0, .slice none 0 0, .int .i64 0, .slice none 0 0] 38 (0, 0)) ∧ wd.heap.size ≤ s.p ∧ Below wd.heap.size wd W
set_option maxRecDepth 100000 in
set_option maxHeartbeats 20000000 in
theorem LinesStay_calls_ (x : Ln) (dos kinds : List Int) (v vd vk : Value) (w : World) (hx : RdL w v x) (hok : ∀ c ∈ x.cs, c.f2.size ≤ 140737488355328) (hd : Rd (Kd.int .i64) w vd dos) (_ : True) (hk : Rd (Kd.int .i64) w vk kinds) (_ : True) (hG : Gl_ w) :
    Calls Tryd.prog 10 #[v, vd, vk] w fun e w' => e = .returned (.bool true) ∧ Below w.heap.size w w' := by
  have hu38 := Tryd.underlying38
  have HLG := Aside0.mk (fun W (hW : Below w.heap.size w W) => long06_calls_ x v W (hx.below hW) hok)
  obtain ⟨_, _, rfl, ⟨A1, c1, rfl, h1, hc1⟩, ⟨A3, c3, rfl, h3, hc3⟩⟩ := hx
  have HX := Aside0.mk (show RdL w (.agg #[.int .i64 x.q, .slice A1 x.ls.length c1, .int .i64 x.k, .slice A3 x.cs.length c3]) x from ⟨_, _, rfl, ⟨A1, c1, rfl, h1, hc1⟩, ⟨A3, c3, rfl, h3, hc3⟩⟩)
  have HAW := Aside0.mk (fun W (hW : Below w.heap.size w W) => awake06_calls_ W (hG.below hW))
  have HG := Aside0.mk hG
  have F0 := heap_alloc_new w (.cells #[.int .i64 x.q, .slice A1 x.ls.length c1, .int .i64 x.k, .slice A3 x.cs.length c3] 38)
  have FB := below_alloc (Below.refl w.heap.size w) (.cells #[.int .i64 x.q, .slice A1 x.ls.length c1, .int .i64 x.k, .slice A3 x.cs.length c3] 38)
  obtain ⟨Ad, cd, rfl, hCd, hcd⟩ := hd
  obtain ⟨Ak, ck, rfl, hCk, hck⟩ := hk
  have HCD := Aside0.mk hCd
  have HCK := Aside0.mk hCk
  clear h1 h3 hc1 hc3 hok hG hCd hCk
  go_enter Tryd.func10, Tryd.ntmps10
  go_upto_region 1 with (fail)
  generalize w.alloc (.cells #[.int .i64 x.q, .slice A1 x.ls.length c1, .int .i64 x.k, .slice A3 x.cs.length c3] 38) = W0 at F0 FB ⊢
  have p0 : W0.cell? ⟨w.heap.size, 0, none⟩ = some (.int .i64 x.q) := (blk_cell F0 0).trans rfl
  have p1 : W0.cell? ⟨w.heap.size, 1, none⟩ = some (.slice A1 x.ls.length c1) := (blk_cell F0 1).trans rfl
  have p2 : W0.cell? ⟨w.heap.size, 2, none⟩ = some (.int .i64 x.k) := (blk_cell F0 2).trans rfl
  have p3 : W0.cell? ⟨w.heap.size, 3, none⟩ = some (.slice A3 x.cs.length c3) := (blk_cell F0 3).trans rfl
  have HF0 := Aside0.mk F0
  have HFB := Aside0.mk FB
  clear F0 FB
  cases hlg : longL x with
  | true =>
    rw [hlg] at HLG
    go_wp2_with (first | (go_at_call 24; refine (HLG.out _ HFB.out).mono ?_; rintro e w1 ⟨rfl, hb⟩; have HB1 := Aside0.mk hb; have fb := blk_below HF0.out hb; have r0 : w1.cell? ⟨w.heap.size, 0, none⟩ = some (.int .i64 x.q) := (blk_cell fb 0).trans rfl; have r1 : w1.cell? ⟨w.heap.size, 1, none⟩ = some (.slice A1 x.ls.length c1) := (blk_cell fb 1).trans rfl; have r2 : w1.cell? ⟨w.heap.size, 2, none⟩ = some (.int .i64 x.k) := (blk_cell fb 2).trans rfl; have r3 : w1.cell? ⟨w.heap.size, 3, none⟩ = some (.slice A3 x.cs.length c3) := (blk_cell fb 3).trans rfl; have HF1 := Aside0.mk fb; clear hb fb) | (go_at_call 25; refine (HAW.out _ (below_step HFB.out HB1.out)).mono ?_; rintro e wz ⟨rfl, hb⟩; have HBZ := Aside0.mk hb; clear hb))
    go_ret
    exact ⟨rfl, below_step (below_step HFB.out HB1.out) HBZ.out⟩
  | false =>
    rw [hlg] at HLG
    have hz := longL_Sz hlg
    have HMY := Aside0.mk (fun W (hW : Below w.heap.size w W) => may_calls_ x _ W (HX.out.below hW) hz (HG.out.below hW))
    have HZ := Aside0.mk hz
    clear hz hlg
    cases hm : mayL x with
    | false =>
      rw [hm] at HMY
      go_wp2_with (first | (go_at_call 24; refine (HLG.out _ HFB.out).mono ?_; rintro e w1 ⟨rfl, hb⟩; have HB1 := Aside0.mk hb; have fb := blk_below HF0.out hb; have r0 : w1.cell? ⟨w.heap.size, 0, none⟩ = some (.int .i64 x.q) := (blk_cell fb 0).trans rfl; have r1 : w1.cell? ⟨w.heap.size, 1, none⟩ = some (.slice A1 x.ls.length c1) := (blk_cell fb 1).trans rfl; have r2 : w1.cell? ⟨w.heap.size, 2, none⟩ = some (.int .i64 x.k) := (blk_cell fb 2).trans rfl; have r3 : w1.cell? ⟨w.heap.size, 3, none⟩ = some (.slice A3 x.cs.length c3) := (blk_cell fb 3).trans rfl; have HF1 := Aside0.mk fb; clear hb fb) | (go_at_call 37; refine (HMY.out _ (below_step HFB.out HB1.out)).mono ?_; rintro e w2 ⟨rfl, hb⟩; have HB2 := Aside0.mk hb; have fb := blk_below HF1.out hb; have t0 : w2.cell? ⟨w.heap.size, 0, none⟩ = some (.int .i64 x.q) := (blk_cell fb 0).trans rfl; have t1 : w2.cell? ⟨w.heap.size, 1, none⟩ = some (.slice A1 x.ls.length c1) := (blk_cell fb 1).trans rfl; have t2 : w2.cell? ⟨w.heap.size, 2, none⟩ = some (.int .i64 x.k) := (blk_cell fb 2).trans rfl; have t3 : w2.cell? ⟨w.heap.size, 3, none⟩ = some (.slice A3 x.cs.length c3) := (blk_cell fb 3).trans rfl; have HF2 := Aside0.mk fb; clear hb fb) | (go_at_call 25; refine (HAW.out _ (below_step (below_step HFB.out HB1.out) HB2.out)).mono ?_; rintro e wz ⟨rfl, hb⟩; have HBZ := Aside0.mk hb; clear hb))
      go_ret
      exact ⟨rfl, below_step (below_step (below_step HFB.out HB1.out) HB2.out) HBZ.out⟩
    | true =>
      rw [hm] at HMY
      by_cases hdl : 100 < dos.length
      · have e1 : decide (100 < (dos.length : Int)) = true := decide_eq_true (by omega)
        clear hdl hm
        go_wp2_with (first | (go_at_call 24; refine (HLG.out _ HFB.out).mono ?_; rintro e w1 ⟨rfl, hb⟩; have HB1 := Aside0.mk hb; have fb := blk_below HF0.out hb; have r0 : w1.cell? ⟨w.heap.size, 0, none⟩ = some (.int .i64 x.q) := (blk_cell fb 0).trans rfl; have r1 : w1.cell? ⟨w.heap.size, 1, none⟩ = some (.slice A1 x.ls.length c1) := (blk_cell fb 1).trans rfl; have r2 : w1.cell? ⟨w.heap.size, 2, none⟩ = some (.int .i64 x.k) := (blk_cell fb 2).trans rfl; have r3 : w1.cell? ⟨w.heap.size, 3, none⟩ = some (.slice A3 x.cs.length c3) := (blk_cell fb 3).trans rfl; have HF1 := Aside0.mk fb; clear hb fb) | (go_at_call 37; refine (HMY.out _ (below_step HFB.out HB1.out)).mono ?_; rintro e w2 ⟨rfl, hb⟩; have HB2 := Aside0.mk hb; have fb := blk_below HF1.out hb; have t0 : w2.cell? ⟨w.heap.size, 0, none⟩ = some (.int .i64 x.q) := (blk_cell fb 0).trans rfl; have t1 : w2.cell? ⟨w.heap.size, 1, none⟩ = some (.slice A1 x.ls.length c1) := (blk_cell fb 1).trans rfl; have t2 : w2.cell? ⟨w.heap.size, 2, none⟩ = some (.int .i64 x.k) := (blk_cell fb 2).trans rfl; have t3 : w2.cell? ⟨w.heap.size, 3, none⟩ = some (.slice A3 x.cs.length c3) := (blk_cell fb 3).trans rfl; have HF2 := Aside0.mk fb; clear hb fb) | (go_at_call 25; refine (HAW.out _ (below_step (below_step HFB.out HB1.out) HB2.out)).mono ?_; rintro e wz ⟨rfl, hb⟩; have HBZ := Aside0.mk hb; clear hb))
        go_ret
        exact ⟨rfl, below_step (below_step (below_step HFB.out HB1.out) HB2.out) HBZ.out⟩
      · have e1 : decide (100 < (dos.length : Int)) = false := decide_eq_false (by omega)
        have HM := Aside0.mk hm
        clear hm
        have HO := Aside0.mk (fun W (hW : Below w.heap.size w W) => own_calls_ x _ W (HX.out.below hW) HZ.out)
        go_wp2_with (first | (go_at_call 24; refine (HLG.out _ HFB.out).mono ?_; rintro e w1 ⟨rfl, hb⟩; have HB1 := Aside0.mk hb; have fb := blk_below HF0.out hb; have r0 : w1.cell? ⟨w.heap.size, 0, none⟩ = some (.int .i64 x.q) := (blk_cell fb 0).trans rfl; have r1 : w1.cell? ⟨w.heap.size, 1, none⟩ = some (.slice A1 x.ls.length c1) := (blk_cell fb 1).trans rfl; have r2 : w1.cell? ⟨w.heap.size, 2, none⟩ = some (.int .i64 x.k) := (blk_cell fb 2).trans rfl; have r3 : w1.cell? ⟨w.heap.size, 3, none⟩ = some (.slice A3 x.cs.length c3) := (blk_cell fb 3).trans rfl; have HF1 := Aside0.mk fb; clear hb fb) | (go_at_call 37; refine (HMY.out _ (below_step HFB.out HB1.out)).mono ?_; rintro e w2 ⟨rfl, hb⟩; have HB2 := Aside0.mk hb; have fb := blk_below HF1.out hb; have t0 : w2.cell? ⟨w.heap.size, 0, none⟩ = some (.int .i64 x.q) := (blk_cell fb 0).trans rfl; have t1 : w2.cell? ⟨w.heap.size, 1, none⟩ = some (.slice A1 x.ls.length c1) := (blk_cell fb 1).trans rfl; have t2 : w2.cell? ⟨w.heap.size, 2, none⟩ = some (.int .i64 x.k) := (blk_cell fb 2).trans rfl; have t3 : w2.cell? ⟨w.heap.size, 3, none⟩ = some (.slice A3 x.cs.length c3) := (blk_cell fb 3).trans rfl; have HF2 := Aside0.mk fb; clear hb fb) | (go_at_call 39; refine (HO.out _ (below_step (below_step HFB.out HB1.out) HB2.out)).mono ?_; rintro e w3 ⟨u1, u3, rfl, ho1, ho3, hb⟩; obtain ⟨D1, f1, rfl⟩ := Kd.R_slice ho1; obtain ⟨D3, f3, rfl⟩ := Kd.R_slice ho3; have HO1 := Aside0.mk ho1; have HO3 := Aside0.mk ho3; have HB3 := Aside0.mk hb; clear ho1 ho3 hb))
        have F3 := heap_alloc_new w3 (.cells #[.int .i64 x.q, .slice D1 x.ls.length f1, .int .i64 x.k, .slice D3 x.cs.length f3] 38)
        have FL := below_alloc (Below.refl w3.heap.size w3) (.cells #[.int .i64 x.q, .slice D1 x.ls.length f1, .int .i64 x.k, .slice D3 x.cs.length f3] 38)
        have hne0 : w.heap.size ≠ w3.heap.size := Nat.ne_of_lt (blk_lt (blk_below HF2.out HB3.out))
        generalize hW3 : w3.alloc (.cells #[.int .i64 x.q, .slice D1 x.ls.length f1, .int .i64 x.k, .slice D3 x.cs.length f3] 38) = W3 at F3 FL ⊢
        clear hW3
        have HB4 := Aside0.mk (below_step (below_step (below_step (below_step HFB.out HB1.out) HB2.out) HB3.out) FL)
        have HF3 := Aside0.mk (blk_below (blk_below HF2.out HB3.out) FL)
        have HM3 := Aside0.mk (show MBox W3 w3.heap.size x from ⟨D1, f1, D3, f3, F3, _, _, rfl, (Wr.of_R HO1.out).rd.below FL, (Wr.of_R HO3.out).rd.below FL⟩)
        have hbm : w.heap.size ≤ w3.heap.size := by (have := blk_lt (blk_below HF2.out HB3.out); omega)
        generalize w3.heap.size = bm at hne0 hbm HM3 ⊢
        clear F3 FL HB1 HB2 HB3 HF0 HF1 HF2 HFB HLG HMY HO HO1 HO3 p0 p1 p2 p3 r0 r1 r2 r3 t0 t1 t2 t3 e1
        go_loopg [8] dos.length (fun g v8 w' => ∃ (i : Nat) (m : Ln), v8 = .int .i64 (i : Int) ∧ i + g = dos.length ∧ Aside0 (MBox w' bm m) ∧ Aside0 (mayL m = true ∧ m.cs = x.cs) ∧ Aside0 (w'.heap[w.heap.size]? = some (.cells #[.int .i64 x.q, .slice A1 x.ls.length c1, .int .i64 x.k, .slice A3 x.cs.length c3] 38 (0, 0))) ∧ Aside0 (Below w.heap.size w w'))
        case atStart => exact ⟨0, x, rfl, by omega, HM3, ⟨HM.out, rfl⟩, HF3, HB4⟩
        case round =>
          clear HM3 HF3 HB4
          obtain ⟨i, m, rfl, hig, HMB, HMM, HF, HB⟩ := hrel
          by_cases hlt : i < dos.length
          · have e1 : decide ((i : Int) < (dos.length : Int)) = true := decide_eq_true (by omega)
            have w1' : IntKind.i64.wrap ((i : Int) + 1) = ((i + 1 : Nat) : Int) := by rw [i64_w]; unfold wrap64; omega
            obtain ⟨g', rfl⟩ : ∃ g', gk = g' + 1 := ⟨gk - 1, by omega⟩
            obtain ⟨ad, ead, hdi⟩ := atI_ HCD.out (i : Int) (by omega) (by omega)
            subst ead
            rw [Int.toNat_natCast] at hdi
            replace hdi := (HB.out.cell (World.block_lt_of_cell? w _ hdi)).trans hdi
            generalize rd dos (i : Int) = dd at hdi
            by_cases hki : i < kinds.length
            case' pos =>
              have e2 : decide ((i : Int) < (kinds.length : Int)) = true := decide_eq_true (by omega)
              obtain ⟨ak, eak, hkk⟩ := atI_ HCK.out (i : Int) (by omega) (by omega)
              subst eak
              rw [Int.toNat_natCast] at hkk
              replace hkk := (HB.out.cell (World.block_lt_of_cell? w _ hkk)).trans hkk
              obtain ⟨kk, ekk⟩ : ∃ kk, rd kinds (i : Int) = kk := ⟨_, rfl⟩
              rw [ekk] at hkk
              clear ekk
              go_upto_region 10 with (fail)
              clear hkk e2
            case' neg =>
              have e2 : decide ((i : Int) < (kinds.length : Int)) = false := decide_eq_false (by omega)
              obtain ⟨kk, ekk⟩ : ∃ kk : Int, (0 : Int) = kk := ⟨_, rfl⟩
              go_upto_region 10 with (fail)
              rw [ekk]
              clear e2 ekk
            all_goals
              obtain ⟨E1, q1, E3, q3, hbx, hrd⟩ := HMB.out
              have hszm := Sz_of HZ.out HMM.out.1 HMM.out.2
              obtain ⟨r, hr⟩ : ∃ r, turnAll dd kk m = r := ⟨_, rfl⟩
              have HT := Aside0.mk (fun W (hW : Below wr.drew.heap.size wr.drew W) => turn_calls_ dd kk m _ W (hrd.below (below_step (below_drew1 (Below.refl _ wr)) hW)) hszm (HG.out.below (below_step (below_drew1 HB.out) hW)))
              have HST := Aside0.mk (stay_turn HMM.out.1 dd kk)
              rw [hr] at HT HST
              clear hr
              obtain ⟨y, ey⟩ := r
              have HMd := Aside0.mk (HMB.out.below (below_drew1 (Below.refl _ wr)))
              have K0 := Aside0.mk (show wr.drew.heap[bm]? = some (.cells #[.int .i64 m.q, .slice E1 m.ls.length q1, .int .i64 m.k, .slice E3 m.cs.length q3] 38 (0, 0)) from hbx)
              have HFd := Aside0.mk (show wr.drew.heap[w.heap.size]? = some (.cells #[.int .i64 x.q, .slice A1 x.ls.length c1, .int .i64 x.k, .slice A3 x.cs.length c3] 38 (0, 0)) from HF.out)
              have HBd := Aside0.mk (below_drew1 HB.out)
              have KD := Aside0.mk (show wr.drew.cell? (ad.add i) = some (.int .i64 dd) from hdi)
              clear hbx hrd hdi HMB HF HB
              refine start_ (n := 13) (S := fun W' => (W'.cell? ⟨bm, 0, none⟩ = some (.int .i64 m.q) ∧ W'.cell? ⟨bm, 1, none⟩ = some (.slice E1 m.ls.length q1) ∧ W'.cell? ⟨bm, 2, none⟩ = some (.int .i64 m.k) ∧ W'.cell? ⟨bm, 3, none⟩ = some (.slice E3 m.cs.length q3)) ∧ W'.cell? (ad.add i) = some (.int .i64 dd)) (ds := [11, 12]) #[false, false, false, false, false, false, false, false, false, false, false, false, false] (by kernel_rfl) rfl rfl ⟨⟨(blk_cell K0.out 0).trans rfl, (blk_cell K0.out 1).trans rfl, (blk_cell K0.out 2).trans rfl, (blk_cell K0.out 3).trans rfl⟩, KD.out⟩ (fun hHeld => ?_)
              generalize wr.drew = wd at HT HMd K0 HFd HBd KD hHeld ⊢
              refine pure_ (i := 1) (N := some 43) (v := ?_) (a' := ?_) #[false, true, false, false, false, false, false, false, false, false, false, false, false] rfl rfl (by kernel_rfl) (fun _ _ _ h => h) (Or.inl ⟨by rfl, ?_⟩) ?_ ?_
              rotate_left
              · intro w'
                go_simp
                with_reducible rfl
              rotate_left
              · simp only [Act.put, List.setIfInBounds_toArray, List.set_cons_zero, List.set_cons_succ]
                rfl
              refine pure_ (i := 2) (N := some 44) (v := ?_) (a' := ?_) #[false, true, true, false, false, false, false, false, false, false, false, false, false] rfl rfl (by kernel_rfl) (fun _ _ _ h => h) (Or.inl ⟨by rfl, ?_⟩) ?_ ?_
              rotate_left
              · intro w'
                go_simp
                with_reducible rfl
              rotate_left
              · simp only [Act.put, List.setIfInBounds_toArray, List.set_cons_zero, List.set_cons_succ]
                rfl
              refine pure_ (i := 5) (N := some 47) (v := ?_) (a' := ?_) #[false, true, true, false, false, true, false, false, false, false, false, false, false] rfl rfl (by kernel_rfl) (fun _ _ _ h => h) (Or.inl ⟨by rfl, ?_⟩) ?_ ?_
              rotate_left
              · intro w'
                go_simp
                with_reducible rfl
              rotate_left
              · simp only [Act.put, List.setIfInBounds_toArray, List.set_cons_zero, List.set_cons_succ]
                rfl
              refine pure_ (i := 3) (N := some 45) (v := ?_) (a' := ?_) #[false, true, true, true, false, true, false, false, false, false, false, false, false] rfl rfl (by kernel_rfl) (fun _ _ _ h => h) (Or.inl ⟨by rfl, ?_⟩) ?_ ?_
              rotate_left
              · intro w'
                go_simp
                with_reducible rfl
              rotate_left
              · simp only [Act.put, List.setIfInBounds_toArray, List.set_cons_zero, List.set_cons_succ]
                rfl
              refine take_ (i := 0) (N := some 42) (v := ?_) (a' := ?_) #[true, true, true, true, false, true, false, false, false, false, false, false, false] rfl rfl (by kernel_rfl) (fun _ _ _ h => h) (Or.inl ⟨by rfl, ?_⟩) hHeld ?_ ?_
              rotate_left
              · rintro w' ⟨⟨s0, s1, s2, s3⟩, s4⟩
                go_simp
                with_reducible rfl
              rotate_left
              · simp only [Act.put, List.setIfInBounds_toArray, List.set_cons_zero, List.set_cons_succ]
                rfl
              refine take_ (i := 4) (N := some 46) (v := ?_) (a' := ?_) #[true, true, true, true, true, true, false, false, false, false, false, false, false] rfl rfl (by kernel_rfl) (fun _ _ _ h => h) (Or.inl ⟨by rfl, ?_⟩) hHeld ?_ ?_
              rotate_left
              · rintro w' ⟨⟨s0, s1, s2, s3⟩, s4⟩
                go_simp
                with_reducible rfl
              rotate_left
              · simp only [Act.put, List.setIfInBounds_toArray, List.set_cons_zero, List.set_cons_succ]
                rfl
              refine join_ (σ := SpT) 2 #[true, true, true, true, true, true, true, true, true, true, true, false, false] (fun s => [(48, .tuple #[.agg #[.int .i64 y.q, .slice s.B1 y.ls.length s.d1, .int .i64 y.k, .slice s.B3 y.cs.length s.d3], .int .i64 ey]), (41, .tuple #[.agg #[.int .i64 y.q, .slice s.B1 y.ls.length s.d1, .int .i64 y.k, .slice s.B3 y.cs.length s.d3], .int .i64 ey]), (49, .agg #[.int .i64 y.q, .slice s.B1 y.ls.length s.d1, .int .i64 y.k, .slice s.B3 y.cs.length s.d3]), (50, .int .i64 ey), (10, .pointer (some ⟨s.p, 0, none⟩))]) (fun s W => SpTF wd y s W) ?_ (fun hcont => ?_)
              rotate_left
              · clear HST HMd HFd HBd
                refine two_ (i := 6) (Ni := some 48) (j := 10) (Nj := some 10) #[true, true, true, true, true, true, true, false, false, false, false, false, false] #[true, true, true, true, true, true, false, false, false, false, true, false, false] rfl rfl rfl rfl (by kernel_rfl) (by decide) (by decide) (fun K hK => ?_) (fun K hK => ?_)
                · refine goes_ Tryd.func52 (by kernel_rfl) rfl #[.agg #[.int .i64 m.q, .slice E1 m.ls.length q1, .int .i64 m.k, .slice E3 m.cs.length q3], .int .i64 dd, .int .i64 kk] (by rfl) rfl rfl (by (try simp only [List.map_toArray, List.map_cons, List.map_nil]); first | done | rfl) ?_
                  refine (HT.out _ (Below.refl _ wd)).mono ?_
                  rintro e w11 hbk
                  have hbk' := hbk.low (w := w)
                  dsimp only at hbk'
                  obtain ⟨B1, d1, B3, d3, rfl, hw, hb⟩ := hbk'
                  have HW := Aside0.mk hw
                  have HX1 := Aside0.mk hb
                  refine ⟨_, rfl, ?_⟩
                  refine hK.out _ _ ⟨⟨(blk_cell (blk_below K0.out HX1.out) 0).trans rfl, (blk_cell (blk_below K0.out HX1.out) 1).trans rfl, (blk_cell (blk_below K0.out HX1.out) 2).trans rfl, (blk_cell (blk_below K0.out HX1.out) 3).trans rfl⟩, ((HX1.out.cell (World.block_lt_of_cell? _ _ KD.out)).trans KD.out)⟩ (fun hHeld => ?_)
                  clear hK K hb
                  refine norm_ (a' := ?_) ?_ ?_
                  rotate_left
                  · show Act.put _ (some 48) _ = _
                    simp only [Act.put, List.setIfInBounds_toArray, List.set_cons_zero, List.set_cons_succ]
                    rfl
                  refine pure_ (i := 7) (N := some 41) (v := ?_) (a' := ?_) #[true, true, true, true, true, true, true, true, false, false, false, false, false] rfl rfl (by kernel_rfl) (fun _ _ _ h => h) (Or.inl ⟨by rfl, ?_⟩) ?_ ?_
                  rotate_left
                  · intro w'
                    go_simp
                    with_reducible rfl
                  rotate_left
                  · simp only [Act.put, List.setIfInBounds_toArray, List.set_cons_zero, List.set_cons_succ]
                    rfl
                  refine pure_ (i := 8) (N := some 49) (v := ?_) (a' := ?_) #[true, true, true, true, true, true, true, true, true, false, false, false, false] rfl rfl (by kernel_rfl) (fun _ _ _ h => h) (Or.inl ⟨by rfl, ?_⟩) ?_ ?_
                  rotate_left
                  · intro w'
                    go_simp
                    with_reducible rfl
                  rotate_left
                  · simp only [Act.put, List.setIfInBounds_toArray, List.set_cons_zero, List.set_cons_succ]
                    rfl
                  refine pure_ (i := 9) (N := some 50) (v := ?_) (a' := ?_) #[true, true, true, true, true, true, true, true, true, true, false, false, false] rfl rfl (by kernel_rfl) (fun _ _ _ h => h) (Or.inl ⟨by rfl, ?_⟩) ?_ ?_
                  rotate_left
                  · intro w'
                    go_simp
                    with_reducible rfl
                  rotate_left
                  · simp only [Act.put, List.setIfInBounds_toArray, List.set_cons_zero, List.set_cons_succ]
                    rfl
                  refine one_ (i := 10) (N := some 10) #[true, true, true, true, true, true, true, true, true, true, true, false, false] rfl rfl (by kernel_rfl) (by decide) (fun K hK => ?_)
                  refine box_step ?hg (N := 10) ?hd (cs := #[.int .i64 0, .slice none 0 0, .int .i64 0, .slice none 0 0]) (t := 38) ?hr ?_; (case hd => rfl); (case hg => rfl); (case hr => first | (go_simp; done) | (go_simp; rfl))
                  intro g hg w12 hbox hb
                  have HN := Aside0.mk hbox
                  have HX2 := Aside0.mk hb
                  refine hK.out _ _ ⟨⟨(blk_cell (blk_below (blk_below K0.out HX1.out) HX2.out) 0).trans rfl, (blk_cell (blk_below (blk_below K0.out HX1.out) HX2.out) 1).trans rfl, (blk_cell (blk_below (blk_below K0.out HX1.out) HX2.out) 2).trans rfl, (blk_cell (blk_below (blk_below K0.out HX1.out) HX2.out) 3).trans rfl⟩, ((HX2.out.cell (World.block_lt_of_cell? _ _ ((HX1.out.cell (World.block_lt_of_cell? _ _ KD.out)).trans KD.out))).trans ((HX1.out.cell (World.block_lt_of_cell? _ _ KD.out)).trans KD.out))⟩ (fun hHeld => ?_)
                  clear hK K hb
                  refine norm_ (a' := ?_) ?_ ?_
                  rotate_left
                  · show Act.put _ (some 10) _ = _
                    simp only [Act.put, List.setIfInBounds_toArray, List.set_cons_zero, List.set_cons_succ]
                    rfl
                  exact hcont ⟨B1, d1, B3, d3, g⟩ _ ⟨HW.out.below HX2.out, HN.out, by rw [hg]; exact HX1.out.size, below_step HX1.out HX2.out⟩
                · refine box_step ?hg (N := 10) ?hd (cs := #[.int .i64 0, .slice none 0 0, .int .i64 0, .slice none 0 0]) (t := 38) ?hr ?_; (case hd => rfl); (case hg => rfl); (case hr => first | (go_simp; done) | (go_simp; rfl))
                  intro g hg w11 hbox hb
                  have HN := Aside0.mk hbox
                  have HX1 := Aside0.mk hb
                  refine hK.out _ _ ⟨⟨(blk_cell (blk_below K0.out HX1.out) 0).trans rfl, (blk_cell (blk_below K0.out HX1.out) 1).trans rfl, (blk_cell (blk_below K0.out HX1.out) 2).trans rfl, (blk_cell (blk_below K0.out HX1.out) 3).trans rfl⟩, ((HX1.out.cell (World.block_lt_of_cell? _ _ KD.out)).trans KD.out)⟩ (fun hHeld => ?_)
                  clear hK K hb
                  refine norm_ (a' := ?_) ?_ ?_
                  rotate_left
                  · show Act.put _ (some 10) _ = _
                    simp only [Act.put, List.setIfInBounds_toArray, List.set_cons_zero, List.set_cons_succ]
                    rfl
                  refine one_ (i := 6) (N := some 48) #[true, true, true, true, true, true, true, false, false, false, true, false, false] rfl rfl (by kernel_rfl) (by decide) (fun K hK => ?_)
                  refine goes_ Tryd.func52 (by kernel_rfl) rfl #[.agg #[.int .i64 m.q, .slice E1 m.ls.length q1, .int .i64 m.k, .slice E3 m.cs.length q3], .int .i64 dd, .int .i64 kk] (by rfl) rfl rfl (by (try simp only [List.map_toArray, List.map_cons, List.map_nil]); first | done | rfl) ?_
                  refine (HT.out _ HX1.out).mono ?_
                  rintro e w12 hbk
                  have hbk' := hbk.low (w := w)
                  dsimp only at hbk'
                  obtain ⟨B1, d1, B3, d3, rfl, hw, hb⟩ := hbk'
                  have HW := Aside0.mk hw
                  have HX2 := Aside0.mk hb
                  refine ⟨_, rfl, ?_⟩
                  refine hK.out _ _ ⟨⟨(blk_cell (blk_below (blk_below K0.out HX1.out) HX2.out) 0).trans rfl, (blk_cell (blk_below (blk_below K0.out HX1.out) HX2.out) 1).trans rfl, (blk_cell (blk_below (blk_below K0.out HX1.out) HX2.out) 2).trans rfl, (blk_cell (blk_below (blk_below K0.out HX1.out) HX2.out) 3).trans rfl⟩, ((HX2.out.cell (World.block_lt_of_cell? _ _ ((HX1.out.cell (World.block_lt_of_cell? _ _ KD.out)).trans KD.out))).trans ((HX1.out.cell (World.block_lt_of_cell? _ _ KD.out)).trans KD.out))⟩ (fun hHeld => ?_)
                  clear hK K hb
                  refine norm_ (a' := ?_) ?_ ?_
                  rotate_left
                  · show Act.put _ (some 48) _ = _
                    simp only [Act.put, List.setIfInBounds_toArray, List.set_cons_zero, List.set_cons_succ]
                    rfl
                  refine pure_ (i := 7) (N := some 41) (v := ?_) (a' := ?_) #[true, true, true, true, true, true, true, true, false, false, true, false, false] rfl rfl (by kernel_rfl) (fun _ _ _ h => h) (Or.inl ⟨by rfl, ?_⟩) ?_ ?_
                  rotate_left
                  · intro w'
                    go_simp
                    with_reducible rfl
                  rotate_left
                  · simp only [Act.put, List.setIfInBounds_toArray, List.set_cons_zero, List.set_cons_succ]
                    rfl
                  refine pure_ (i := 8) (N := some 49) (v := ?_) (a' := ?_) #[true, true, true, true, true, true, true, true, true, false, true, false, false] rfl rfl (by kernel_rfl) (fun _ _ _ h => h) (Or.inl ⟨by rfl, ?_⟩) ?_ ?_
                  rotate_left
                  · intro w'
                    go_simp
                    with_reducible rfl
                  rotate_left
                  · simp only [Act.put, List.setIfInBounds_toArray, List.set_cons_zero, List.set_cons_succ]
                    rfl
                  refine pure_ (i := 9) (N := some 50) (v := ?_) (a' := ?_) #[true, true, true, true, true, true, true, true, true, true, true, false, false] rfl rfl (by kernel_rfl) (fun _ _ _ h => h) (Or.inl ⟨by rfl, ?_⟩) ?_ ?_
                  rotate_left
                  · intro w'
                    go_simp
                    with_reducible rfl
                  rotate_left
                  · simp only [Act.put, List.setIfInBounds_toArray, List.set_cons_zero, List.set_cons_succ]
                    rfl
                  exact hcont ⟨B1, d1, B3, d3, g⟩ _ ⟨HW.out.lower HX1.out.size, blk_below HN.out HX2.out, by rw [hg]; exact Nat.le_refl _, below_step HX1.out HX2.out⟩
              · intro s W hF
                obtain ⟨hyw, hp, hpge, hBW⟩ := hF
                obtain ⟨B1, d1, B3, d3, p⟩ := s
                dsimp only at hyw hp hpge
                refine norm_ (a' := ?_) ?_ ?_
                rotate_left
                · simp only [putAll, Act.put, List.setIfInBounds_toArray, List.set_cons_zero, List.set_cons_succ]
                  rfl
                have z0 : W.cell? ⟨p, 0, none⟩ = some (.int .i64 0) := (blk_cell hp 0).trans rfl
                have ze0 : W.frozen? ⟨p, 0, none⟩ = false := blk_frozen hp 0
                have z1 : W.cell? ⟨p, 1, none⟩ = some (.slice none 0 0) := (blk_cell hp 1).trans rfl
                have ze1 : W.frozen? ⟨p, 1, none⟩ = false := blk_frozen hp 1
                have z2 : W.cell? ⟨p, 2, none⟩ = some (.int .i64 0) := (blk_cell hp 2).trans rfl
                have ze2 : W.frozen? ⟨p, 2, none⟩ = false := blk_frozen hp 2
                have z3 : W.cell? ⟨p, 3, none⟩ = some (.slice none 0 0) := (blk_cell hp 3).trans rfl
                have ze3 : W.frozen? ⟨p, 3, none⟩ = false := blk_frozen hp 3
                refine last_ (i := 11) (N := none) #[true, true, true, true, true, true, true, true, true, true, true, true, false] rfl rfl (by kernel_rfl) (by decide) (fun K hK => ?_)
                refine skip_ (w1 := put4_ W p (.int .i64 y.q) (.slice B1 y.ls.length d1) (.int .i64 y.k) (.slice B3 y.cs.length d3)) (by rfl) rfl (by go_simp; rfl) ?_
                refine hK.out _ _ ?_
                clear hK K z0 ze0 z1 ze1 z2 ze2 z3 ze3
                refine pure_ (i := 12) (N := some 11) (v := ?_) (a' := ?_) #[true, true, true, true, true, true, true, true, true, true, true, true, true] rfl rfl (by kernel_rfl) (fun _ _ _ h => h) (Or.inl ⟨by rfl, ?_⟩) ?_ ?_
                rotate_left
                · intro w'
                  go_simp
                  with_reducible rfl
                rotate_left
                · simp only [Act.put, List.setIfInBounds_toArray, List.set_cons_zero, List.set_cons_succ]
                  rfl
                refine done_ (by kernel_rfl) ?_
                have hV := put4_blk (a := .int .i64 y.q) (b := .slice B1 y.ls.length d1) (c := .int .i64 y.k) (d := .slice B3 y.cs.length d3) hp
                have hVB := put4_below (a := .int .i64 y.q) (b := .slice B1 y.ls.length d1) (c := .int .i64 y.k) (d := .slice B3 y.cs.length d3) hBW hpge
                have hVY := put4_WrL (a := .int .i64 y.q) (b := .slice B1 y.ls.length d1) (c := .int .i64 y.k) (d := .slice B3 y.cs.length d3) hyw hp
                generalize put4_ W p (.int .i64 y.q) (.slice B1 y.ls.length d1) (.int .i64 y.k) (.slice B3 y.cs.length d3) = V at hV hVB hVY ⊢
                clear hp hyw hBW
                have HV := Aside0.mk hV
                have HVY := Aside0.mk hVY
                have HVM := Aside0.mk (HMd.out.below hVB)
                have HVF := Aside0.mk (blk_below HFd.out hVB)
                have HVB := Aside0.mk (below_step HBd.out hVB)
                have hpm : bm ≠ p := by have := blk_lt K0.out; omega
                have hmb := blk_below K0.out hVB
                have HKM := Aside0.mk hmb
                clear hVB hVY K0 KD HMd HFd HBd HT
                rcases HST.out with ⟨he, hmy, hcy, hne⟩ | hrr | hrr
                · dsimp only at he hmy hcy hne
                  subst he
                  have z0 : V.cell? ⟨p, 0, none⟩ = some (.int .i64 y.q) := (blk_cell hV 0).trans rfl
                  have z1 : V.cell? ⟨p, 1, none⟩ = some (.slice B1 y.ls.length d1) := (blk_cell hV 1).trans rfl
                  have z2 : V.cell? ⟨p, 2, none⟩ = some (.int .i64 y.k) := (blk_cell hV 2).trans rfl
                  have z3 : V.cell? ⟨p, 3, none⟩ = some (.slice B3 y.cs.length d3) := (blk_cell hV 3).trans rfl
                  have u0 : V.cell? ⟨bm, 0, none⟩ = some (.int .i64 m.q) := (blk_cell hmb 0).trans rfl
                  have ue0 : V.frozen? ⟨bm, 0, none⟩ = false := blk_frozen hmb 0
                  have u1 : V.cell? ⟨bm, 1, none⟩ = some (.slice E1 m.ls.length q1) := (blk_cell hmb 1).trans rfl
                  have ue1 : V.frozen? ⟨bm, 1, none⟩ = false := blk_frozen hmb 1
                  have u2 : V.cell? ⟨bm, 2, none⟩ = some (.int .i64 m.k) := (blk_cell hmb 2).trans rfl
                  have ue2 : V.frozen? ⟨bm, 2, none⟩ = false := blk_frozen hmb 2
                  have u3 : V.cell? ⟨bm, 3, none⟩ = some (.slice E3 m.cs.length q3) := (blk_cell hmb 3).trans rfl
                  have ue3 : V.frozen? ⟨bm, 3, none⟩ = false := blk_frozen hmb 3
                  have hsf : sameL y m = false := by
                    cases e : sameL y m with
                    | false => rfl
                    | true => exact absurd (sameL_iff.1 e) hne
                  have hzy := Sz_of HZ.out hmy (hcy.trans HMM.out.2)
                  have hMV : RdL V (.agg #[.int .i64 m.q, .slice E1 m.ls.length q1, .int .i64 m.k, .slice E3 m.cs.length q3]) m := by
                    obtain ⟨_, _, _, _, hb1, hb2⟩ := HVM.out
                    have e := hb1.symm.trans hmb
                    injection e with e
                    injection e with e
                    rw [e] at hb2
                    exact hb2
                  have HSY := Aside0.mk (same_calls_ y m _ _ V HVY.out.rd hMV hzy)
                  rw [hsf] at HSY
                  have HP2 := Aside0.mk (show y.cs = x.cs from hcy.trans HMM.out.2)
                  have HMY2 := Aside0.mk hmy
                  have HZY := Aside0.mk hzy
                  clear hsf hzy hcy hne hMV hV hmb hmy HST
                  go_upto_region 17 with (go_at_call 19; refine HSY.out.mono ?_; rintro e w5 ⟨rfl, hb⟩; have HB5 := Aside0.mk hb; have fn := blk_below HV.out hb; have fm := blk_below HKM.out hb; have k0 : w5.cell? ⟨p, 0, none⟩ = some (.int .i64 y.q) := (blk_cell fn 0).trans rfl; have k1 : w5.cell? ⟨p, 1, none⟩ = some (.slice B1 y.ls.length d1) := (blk_cell fn 1).trans rfl; have k2 : w5.cell? ⟨p, 2, none⟩ = some (.int .i64 y.k) := (blk_cell fn 2).trans rfl; have k3 : w5.cell? ⟨p, 3, none⟩ = some (.slice B3 y.cs.length d3) := (blk_cell fn 3).trans rfl; have l0 : w5.cell? ⟨bm, 0, none⟩ = some (.int .i64 m.q) := (blk_cell fm 0).trans rfl; have le0 : w5.frozen? ⟨bm, 0, none⟩ = false := blk_frozen fm 0; have l1 : w5.cell? ⟨bm, 1, none⟩ = some (.slice E1 m.ls.length q1) := (blk_cell fm 1).trans rfl; have le1 : w5.frozen? ⟨bm, 1, none⟩ = false := blk_frozen fm 1; have l2 : w5.cell? ⟨bm, 2, none⟩ = some (.int .i64 m.k) := (blk_cell fm 2).trans rfl; have le2 : w5.frozen? ⟨bm, 2, none⟩ = false := blk_frozen fm 2; have l3 : w5.cell? ⟨bm, 3, none⟩ = some (.slice E3 m.cs.length q3) := (blk_cell fm 3).trans rfl; have le3 : w5.frozen? ⟨bm, 3, none⟩ = false := blk_frozen fm 3; have FM := Aside0.mk fm; clear hb fn fm)
                  have gM := put4_blk (a := .int .i64 y.q) (b := .slice B1 y.ls.length d1) (c := .int .i64 y.k) (d := .slice B3 y.cs.length d3) FM.out
                  have gY := put4_WrL (a := .int .i64 y.q) (b := .slice B1 y.ls.length d1) (c := .int .i64 y.k) (d := .slice B3 y.cs.length d3) (HVY.out.below HB5.out) FM.out
                  have gF := put4_off (g := bm) (a := .int .i64 y.q) (b := .slice B1 y.ls.length d1) (c := .int .i64 y.k) (d := .slice B3 y.cs.length d3) (blk_below HVF.out HB5.out) hne0
                  have gB := put4_below (a := .int .i64 y.q) (b := .slice B1 y.ls.length d1) (c := .int .i64 y.k) (d := .slice B3 y.cs.length d3) (below_step HVB.out HB5.out) hbm
                  unfold put4_ at gM gY gF gB
                  generalize (((w5.setCell ⟨bm, 0, none⟩ (.int .i64 y.q)).setCell ⟨bm, 1, none⟩ (.slice B1 y.ls.length d1)).setCell ⟨bm, 2, none⟩ (.int .i64 y.k)).setCell ⟨bm, 3, none⟩ (.slice B3 y.cs.length d3) = V2 at gM gY gF gB ⊢
                  clear FM HB5 z0 z1 z2 z3 u0 ue0 u1 ue1 u2 ue2 u3 ue3 k0 k1 k2 k3 l0 le0 l1 le1 l2 le2 l3 le3 HSY
                  have HMZ := Aside0.mk (may_calls_ y _ V2 gY.rd HZY.out (HG.out.below gB))
                  rw [HMY2.out] at HMZ
                  have z0 : V2.cell? ⟨bm, 0, none⟩ = some (.int .i64 y.q) := (blk_cell gM 0).trans rfl
                  have z1 : V2.cell? ⟨bm, 1, none⟩ = some (.slice B1 y.ls.length d1) := (blk_cell gM 1).trans rfl
                  have z2 : V2.cell? ⟨bm, 2, none⟩ = some (.int .i64 y.k) := (blk_cell gM 2).trans rfl
                  have z3 : V2.cell? ⟨bm, 3, none⟩ = some (.slice B3 y.cs.length d3) := (blk_cell gM 3).trans rfl
                  have xx0 : V2.cell? ⟨w.heap.size, 0, none⟩ = some (.int .i64 x.q) := (blk_cell gF 0).trans rfl
                  have xx1 : V2.cell? ⟨w.heap.size, 1, none⟩ = some (.slice A1 x.ls.length c1) := (blk_cell gF 1).trans rfl
                  have xx2 : V2.cell? ⟨w.heap.size, 2, none⟩ = some (.int .i64 x.k) := (blk_cell gF 2).trans rfl
                  have xx3 : V2.cell? ⟨w.heap.size, 3, none⟩ = some (.slice A3 x.cs.length c3) := (blk_cell gF 3).trans rfl
                  have HGM := Aside0.mk gM
                  have HGF := Aside0.mk gF
                  have HGB := Aside0.mk gB
                  have HGY := Aside0.mk (show RdL V2 (.agg #[.int .i64 y.q, .slice B1 y.ls.length d1, .int .i64 y.k, .slice B3 y.cs.length d3]) y from gY.rd)
                  have HSC := Aside0.mk (fun W (hW : Below V2.heap.size V2 W) => same05_calls_ y.cs x.cs (.slice B3 y.cs.length d3) (.slice A3 x.cs.length c3) W (by obtain ⟨_, _, e, _, h⟩ := HGY.out.below hW; injection e with e; injection e with e; injection e with _ e; injection e with _ e; injection e with _ e; injection e with e _; rw [e]; exact h) (by obtain ⟨_, _, e, _, h⟩ := HX.out.below (below_step HGB.out hW); injection e with e; injection e with e; injection e with _ e; injection e with _ e; injection e with _ e; injection e with e _; rw [e]; exact h) (by have := HZY.out.2.1; omega))
                  rw [show sameC y.cs x.cs = true from sameC_iff.2 HP2.out] at HSC
                  clear gM gF gB gY
                  go_wp2_with (first | (go_at_call 37; refine HMZ.out.mono ?_; rintro e w6 ⟨rfl, hb⟩; have HB6 := Aside0.mk hb; have fm := blk_below HGM.out hb; have ff := blk_below HGF.out hb; have km : w6.cell? ⟨bm, 3, none⟩ = some (.slice B3 y.cs.length d3) := (blk_cell fm 3).trans rfl; have kf : w6.cell? ⟨w.heap.size, 3, none⟩ = some (.slice A3 x.cs.length c3) := (blk_cell ff 3).trans rfl; clear hb fm ff) | (go_at_call 36; refine (HSC.out _ HB6.out).mono ?_; rintro e w7 ⟨rfl, ⟨n7, rfl⟩⟩))
                  go_roundg g'
                  case measure => omega
                  case rel => exact ⟨i + 1, y, by first | rfl | (simp; done), by omega, ⟨B1, d1, B3, d3, blk_drewN (blk_below HGM.out HB6.out) _, (HGY.out.below HB6.out).below (pw_below_drewN (Below.refl _ _) _)⟩, ⟨HMY2.out, HP2.out⟩, ⟨blk_drewN (blk_below HGF.out HB6.out) _⟩, ⟨pw_below_drewN (below_step HGB.out HB6.out) _⟩⟩
                · have e1 := congrArg Prod.snd hrr
                  dsimp only at e1
                  subst e1
                  clear hrr
                  have gM := HKM.out
                  have gF := HVF.out
                  have gB := HVB.out
                  have gY : RdL V (.agg #[.int .i64 m.q, .slice E1 m.ls.length q1, .int .i64 m.k, .slice E3 m.cs.length q3]) m := by
                    obtain ⟨_, _, _, _, hb1, hb2⟩ := HVM.out
                    have e := hb1.symm.trans hmb
                    injection e with e
                    injection e with e
                    rw [e] at hb2
                    exact hb2
                  have HP2 := Aside0.mk HMM.out.2
                  have HMY2 := Aside0.mk HMM.out.1
                  have HZY := Aside0.mk hszm
                  clear hV hmb HST
                  go_upto_region 17 with (fail)
                  generalize V = V2 at gM gY gF gB ⊢
                  have HMZ := Aside0.mk (may_calls_ m _ V2 gY HZY.out (HG.out.below gB))
                  rw [HMY2.out] at HMZ
                  have z0 : V2.cell? ⟨bm, 0, none⟩ = some (.int .i64 m.q) := (blk_cell gM 0).trans rfl
                  have z1 : V2.cell? ⟨bm, 1, none⟩ = some (.slice E1 m.ls.length q1) := (blk_cell gM 1).trans rfl
                  have z2 : V2.cell? ⟨bm, 2, none⟩ = some (.int .i64 m.k) := (blk_cell gM 2).trans rfl
                  have z3 : V2.cell? ⟨bm, 3, none⟩ = some (.slice E3 m.cs.length q3) := (blk_cell gM 3).trans rfl
                  have xx0 : V2.cell? ⟨w.heap.size, 0, none⟩ = some (.int .i64 x.q) := (blk_cell gF 0).trans rfl
                  have xx1 : V2.cell? ⟨w.heap.size, 1, none⟩ = some (.slice A1 x.ls.length c1) := (blk_cell gF 1).trans rfl
                  have xx2 : V2.cell? ⟨w.heap.size, 2, none⟩ = some (.int .i64 x.k) := (blk_cell gF 2).trans rfl
                  have xx3 : V2.cell? ⟨w.heap.size, 3, none⟩ = some (.slice A3 x.cs.length c3) := (blk_cell gF 3).trans rfl
                  have HGM := Aside0.mk gM
                  have HGF := Aside0.mk gF
                  have HGB := Aside0.mk gB
                  have HGY := Aside0.mk (show RdL V2 (.agg #[.int .i64 m.q, .slice E1 m.ls.length q1, .int .i64 m.k, .slice E3 m.cs.length q3]) m from gY)
                  have HSC := Aside0.mk (fun W (hW : Below V2.heap.size V2 W) => same05_calls_ m.cs x.cs (.slice E3 m.cs.length q3) (.slice A3 x.cs.length c3) W (by obtain ⟨_, _, e, _, h⟩ := HGY.out.below hW; injection e with e; injection e with e; injection e with _ e; injection e with _ e; injection e with _ e; injection e with e _; rw [e]; exact h) (by obtain ⟨_, _, e, _, h⟩ := HX.out.below (below_step HGB.out hW); injection e with e; injection e with e; injection e with _ e; injection e with _ e; injection e with _ e; injection e with e _; rw [e]; exact h) (by have := HZY.out.2.1; omega))
                  rw [show sameC m.cs x.cs = true from sameC_iff.2 HP2.out] at HSC
                  clear gM gF gB gY
                  go_wp2_with (first | (go_at_call 37; refine HMZ.out.mono ?_; rintro e w6 ⟨rfl, hb⟩; have HB6 := Aside0.mk hb; have fm := blk_below HGM.out hb; have ff := blk_below HGF.out hb; have km : w6.cell? ⟨bm, 3, none⟩ = some (.slice E3 m.cs.length q3) := (blk_cell fm 3).trans rfl; have kf : w6.cell? ⟨w.heap.size, 3, none⟩ = some (.slice A3 x.cs.length c3) := (blk_cell ff 3).trans rfl; clear hb fm ff) | (go_at_call 36; refine (HSC.out _ HB6.out).mono ?_; rintro e w7 ⟨rfl, ⟨n7, rfl⟩⟩))
                  go_roundg g'
                  case measure => omega
                  case rel => exact ⟨i + 1, m, by first | rfl | (simp; done), by omega, ⟨E1, q1, E3, q3, blk_drewN (blk_below HGM.out HB6.out) _, (HGY.out.below HB6.out).below (pw_below_drewN (Below.refl _ _) _)⟩, ⟨HMY2.out, HP2.out⟩, ⟨blk_drewN (blk_below HGF.out HB6.out) _⟩, ⟨pw_below_drewN (below_step HGB.out HB6.out) _⟩⟩
                · have e1 := congrArg Prod.snd hrr
                  dsimp only at e1
                  subst e1
                  clear hrr
                  have gM := HKM.out
                  have gF := HVF.out
                  have gB := HVB.out
                  have gY : RdL V (.agg #[.int .i64 m.q, .slice E1 m.ls.length q1, .int .i64 m.k, .slice E3 m.cs.length q3]) m := by
                    obtain ⟨_, _, _, _, hb1, hb2⟩ := HVM.out
                    have e := hb1.symm.trans hmb
                    injection e with e
                    injection e with e
                    rw [e] at hb2
                    exact hb2
                  have HP2 := Aside0.mk HMM.out.2
                  have HMY2 := Aside0.mk HMM.out.1
                  have HZY := Aside0.mk hszm
                  clear hV hmb HST
                  go_upto_region 17 with (fail)
                  generalize V = V2 at gM gY gF gB ⊢
                  have HMZ := Aside0.mk (may_calls_ m _ V2 gY HZY.out (HG.out.below gB))
                  rw [HMY2.out] at HMZ
                  have z0 : V2.cell? ⟨bm, 0, none⟩ = some (.int .i64 m.q) := (blk_cell gM 0).trans rfl
                  have z1 : V2.cell? ⟨bm, 1, none⟩ = some (.slice E1 m.ls.length q1) := (blk_cell gM 1).trans rfl
                  have z2 : V2.cell? ⟨bm, 2, none⟩ = some (.int .i64 m.k) := (blk_cell gM 2).trans rfl
                  have z3 : V2.cell? ⟨bm, 3, none⟩ = some (.slice E3 m.cs.length q3) := (blk_cell gM 3).trans rfl
                  have xx0 : V2.cell? ⟨w.heap.size, 0, none⟩ = some (.int .i64 x.q) := (blk_cell gF 0).trans rfl
                  have xx1 : V2.cell? ⟨w.heap.size, 1, none⟩ = some (.slice A1 x.ls.length c1) := (blk_cell gF 1).trans rfl
                  have xx2 : V2.cell? ⟨w.heap.size, 2, none⟩ = some (.int .i64 x.k) := (blk_cell gF 2).trans rfl
                  have xx3 : V2.cell? ⟨w.heap.size, 3, none⟩ = some (.slice A3 x.cs.length c3) := (blk_cell gF 3).trans rfl
                  have HGM := Aside0.mk gM
                  have HGF := Aside0.mk gF
                  have HGB := Aside0.mk gB
                  have HGY := Aside0.mk (show RdL V2 (.agg #[.int .i64 m.q, .slice E1 m.ls.length q1, .int .i64 m.k, .slice E3 m.cs.length q3]) m from gY)
                  have HSC := Aside0.mk (fun W (hW : Below V2.heap.size V2 W) => same05_calls_ m.cs x.cs (.slice E3 m.cs.length q3) (.slice A3 x.cs.length c3) W (by obtain ⟨_, _, e, _, h⟩ := HGY.out.below hW; injection e with e; injection e with e; injection e with _ e; injection e with _ e; injection e with _ e; injection e with e _; rw [e]; exact h) (by obtain ⟨_, _, e, _, h⟩ := HX.out.below (below_step HGB.out hW); injection e with e; injection e with e; injection e with _ e; injection e with _ e; injection e with _ e; injection e with e _; rw [e]; exact h) (by have := HZY.out.2.1; omega))
                  rw [show sameC m.cs x.cs = true from sameC_iff.2 HP2.out] at HSC
                  clear gM gF gB gY
                  go_wp2_with (first | (go_at_call 37; refine HMZ.out.mono ?_; rintro e w6 ⟨rfl, hb⟩; have HB6 := Aside0.mk hb; have fm := blk_below HGM.out hb; have ff := blk_below HGF.out hb; have km : w6.cell? ⟨bm, 3, none⟩ = some (.slice E3 m.cs.length q3) := (blk_cell fm 3).trans rfl; have kf : w6.cell? ⟨w.heap.size, 3, none⟩ = some (.slice A3 x.cs.length c3) := (blk_cell ff 3).trans rfl; clear hb fm ff) | (go_at_call 36; refine (HSC.out _ HB6.out).mono ?_; rintro e w7 ⟨rfl, ⟨n7, rfl⟩⟩))
                  go_roundg g'
                  case measure => omega
                  case rel => exact ⟨i + 1, m, by first | rfl | (simp; done), by omega, ⟨E1, q1, E3, q3, blk_drewN (blk_below HGM.out HB6.out) _, (HGY.out.below HB6.out).below (pw_below_drewN (Below.refl _ _) _)⟩, ⟨HMY2.out, HP2.out⟩, ⟨blk_drewN (blk_below HGF.out HB6.out) _⟩, ⟨pw_below_drewN (below_step HGB.out HB6.out) _⟩⟩
          · obtain rfl : i = dos.length := by omega
            have e1 : decide ((dos.length : Int) < (dos.length : Int)) = false := decide_eq_false (by omega)
            clear hlt
            go_wp2_with (go_at_call 25; refine (HAW.out _ HB.out).mono ?_; rintro e wz ⟨rfl, hb⟩; have HBZ := Aside0.mk hb; clear hb)
            go_ret
            exact ⟨rfl, below_step HB.out HBZ.out⟩
end Go.Proofs.YtgdpknmffohhaaaDoor.Pl
