/- LinesTurns, walked. -/
import Derived.Test.YtgdpknmffohhaaaDoorM1
import Derived.Test.YtgdpknmffohhaaaDoorM2
import Derived.Test.YtgdpknmffohhaaaDoorM3
import Derived.Test.YtgdpknmffohhaaaDoorM4
namespace Go.Proofs.YtgdpknmffohhaaaDoor.Pl
open Go.RowKit Go.Lib Go.Proofs.YtgdpknmffohhaaaDoorW.PrintWords Go.Proofs.YtgdpknmffohhaaaDoorW.PrintLast Go.Proofs.YtgdpknmffohhaaaDoorW.PrintMore
set_option linter.unusedVariables false
set_option maxRecDepth 100000 in
set_option maxHeartbeats 20000000 in
theorem LinesTurns_calls_ (x : Ln) (kind : Int) (v : Value) (w : World) (hx : RdL w v x) (hok : ∀ c ∈ x.cs, c.f2.size ≤ 140737488355328) (hkind_ : (Lit.int .i64 kind).wf = true) (hG : Gl_ w) :
    Calls Tryd.prog 8 #[v, .int .i64 kind] w fun e w' => e = .returned (.bool true) ∧ Below w.heap.size w w' := by
  have hu38 := Tryd.underlying38
  clear hkind_
  have HLG := Aside0.mk (fun W (hW : Below w.heap.size w W) => long06_calls_ x v W (hx.below hW) hok)
  obtain ⟨_, _, rfl, ⟨A1, c1, rfl, h1, hc1⟩, ⟨A3, c3, rfl, h3, hc3⟩⟩ := hx
  have HX := Aside0.mk (show RdL w (.agg #[.int .i64 x.q, .slice A1 x.ls.length c1, .int .i64 x.k, .slice A3 x.cs.length c3]) x from ⟨_, _, rfl, ⟨A1, c1, rfl, h1, hc1⟩, ⟨A3, c3, rfl, h3, hc3⟩⟩)
  have HAW := Aside0.mk (fun W (hW : Below w.heap.size w W) => awake06_calls_ W (hG.below hW))
  have HG := Aside0.mk hG
  have F0 := heap_alloc_new w (.cells #[.int .i64 x.q, .slice A1 x.ls.length c1, .int .i64 x.k, .slice A3 x.cs.length c3] 38)
  have FB := below_alloc (Below.refl w.heap.size w) (.cells #[.int .i64 x.q, .slice A1 x.ls.length c1, .int .i64 x.k, .slice A3 x.cs.length c3] 38)
  clear h1 h3 hc1 hc3 hok hG
  go_enter Tryd.func8, Tryd.ntmps8
  go_upto_region 1 with (fail)
  generalize w.alloc (.cells #[.int .i64 x.q, .slice A1 x.ls.length c1, .int .i64 x.k, .slice A3 x.cs.length c3] 38) = W0 at F0 FB ⊢
  have p0 : W0.cell? ⟨w.heap.size, 0, none⟩ = some (.int .i64 x.q) := (blk_cell F0 0).trans rfl
  have p1 : W0.cell? ⟨w.heap.size, 1, none⟩ = some (.slice A1 x.ls.length c1) := (blk_cell F0 1).trans rfl
  have p2 : W0.cell? ⟨w.heap.size, 2, none⟩ = some (.int .i64 x.k) := (blk_cell F0 2).trans rfl
  have p3 : W0.cell? ⟨w.heap.size, 3, none⟩ = some (.slice A3 x.cs.length c3) := (blk_cell F0 3).trans rfl
  have HF0 := Aside0.mk F0
  have HFB := Aside0.mk FB
  clear F0 FB
  cases hlg : longL x with
  | true =>
    rw [hlg] at HLG
    go_wp2_with (first | (go_at_call 24; refine (HLG.out _ HFB.out).mono ?_; rintro e w1 ⟨rfl, hb⟩; have HB1 := Aside0.mk hb; have fb := blk_below HF0.out hb; have r0 : w1.cell? ⟨w.heap.size, 0, none⟩ = some (.int .i64 x.q) := (blk_cell fb 0).trans rfl; have r1 : w1.cell? ⟨w.heap.size, 1, none⟩ = some (.slice A1 x.ls.length c1) := (blk_cell fb 1).trans rfl; have r2 : w1.cell? ⟨w.heap.size, 2, none⟩ = some (.int .i64 x.k) := (blk_cell fb 2).trans rfl; have r3 : w1.cell? ⟨w.heap.size, 3, none⟩ = some (.slice A3 x.cs.length c3) := (blk_cell fb 3).trans rfl; have HF1 := Aside0.mk fb; clear hb fb) | (go_at_call 25; refine (HAW.out _ (below_step HFB.out HB1.out)).mono ?_; rintro e wz ⟨rfl, hb⟩; have HBZ := Aside0.mk hb; clear hb))
    go_ret
    exact ⟨rfl, below_step (below_step HFB.out HB1.out) HBZ.out⟩
  | false =>
    rw [hlg] at HLG
    have HZ := Aside0.mk (longL_Sz hlg)
    clear hlg
    have HO := Aside0.mk (fun W (hW : Below w.heap.size w W) => refown_calls_ x _ W (HX.out.below hW) HZ.out)
    go_upto_region 4 with (first | (go_at_call 24; refine (HLG.out _ HFB.out).mono ?_; rintro e w1 ⟨rfl, hb⟩; have HB1 := Aside0.mk hb; have fb := blk_below HF0.out hb; have r0 : w1.cell? ⟨w.heap.size, 0, none⟩ = some (.int .i64 x.q) := (blk_cell fb 0).trans rfl; have r1 : w1.cell? ⟨w.heap.size, 1, none⟩ = some (.slice A1 x.ls.length c1) := (blk_cell fb 1).trans rfl; have r2 : w1.cell? ⟨w.heap.size, 2, none⟩ = some (.int .i64 x.k) := (blk_cell fb 2).trans rfl; have r3 : w1.cell? ⟨w.heap.size, 3, none⟩ = some (.slice A3 x.cs.length c3) := (blk_cell fb 3).trans rfl; have HF1 := Aside0.mk fb; clear hb fb) | (go_at_call 26; refine (HO.out _ (below_step HFB.out HB1.out)).mono ?_; rintro e w2 ⟨u1, u3, rfl, ho1, ho3, hb⟩; obtain ⟨S1, S1', rfl⟩ := Kd.R_slice ho1; obtain ⟨S3, S3', rfl⟩ := Kd.R_slice ho3; have HO1 := Aside0.mk ((Wr.of_R ho1).lower (Nat.zero_le _)); have HO3 := Aside0.mk ((Wr.of_R ho3).lower (Nat.zero_le _)); have HB2 := Aside0.mk hb; clear ho1 ho3 hb))
    have F3 := heap_alloc_new w2 (.cells #[.int .i64 x.q, .slice S1 x.ls.length S1', .int .i64 x.k, .slice S3 x.cs.length S3'] 38)
    have FL := below_alloc (Below.refl w2.heap.size w2) (.cells #[.int .i64 x.q, .slice S1 x.ls.length S1', .int .i64 x.k, .slice S3 x.cs.length S3'] 38)
    have HF := Aside0.mk (blk_below (blk_below HF1.out HB2.out) FL)
    have HB := Aside0.mk (below_step (below_step (below_step HFB.out HB1.out) HB2.out) FL)
    have HWO := Aside0.mk (show WrL (w2.alloc (.cells #[.int .i64 x.q, .slice S1 x.ls.length S1', .int .i64 x.k, .slice S3 x.cs.length S3'] 38)) 0 (.agg #[.int .i64 x.q, .slice S1 x.ls.length S1', .int .i64 x.k, .slice S3 x.cs.length S3']) x from ⟨_, _, rfl, HO1.out.below FL, HO3.out.below FL⟩)
    have HS := Aside0.mk F3
    have HNS := Aside0.mk (show w.heap.size < w2.heap.size from Nat.lt_of_lt_of_le (blk_lt HF1.out) HB2.out.size)
    generalize w2.alloc (.cells #[.int .i64 x.q, .slice S1 x.ls.length S1', .int .i64 x.k, .slice S3 x.cs.length S3'] 38) = Wo at HF HB HWO HS ⊢
    generalize w2.heap.size = bs at HS HNS ⊢
    clear F3 FL HLG HO HO1 HO3 HB1 HB2 HF0 HF1 HFB p0 p1 p2 p3 r0 r1 r2 r3
    have HK := Aside0.mk (Keep_.refl Wo.heap.size Wo)
    obtain ⟨r, hr⟩ : ∃ r, turnR indentF x = r := ⟨_, rfl⟩
    have HP := Aside0.mk (indent_calls_ x _ Wo (HX.out.below HB.out) HZ.out (HG.out.below HB.out))
    have HQ := Aside0.mk (fun W' (hK : Keep_ Wo.heap.size Wo W') => refindent_calls_ x _ W' (HWO.out.keep hK).rd HZ.out)
    have HSZ := Aside0.mk (Sz_indent HZ.out)
    rw [hr] at HP HQ HSZ
    clear hr
    have HNO := Aside0.mk (show Wo.heap.size ≤ Wo.heap.size from Nat.le_refl _)
    have fl := HF.out
    have l0 : Wo.cell? ⟨w.heap.size, 0, none⟩ = some (.int .i64 x.q) := (blk_cell fl 0).trans rfl
    have l1 : Wo.cell? ⟨w.heap.size, 1, none⟩ = some (.slice A1 x.ls.length c1) := (blk_cell fl 1).trans rfl
    have l2 : Wo.cell? ⟨w.heap.size, 2, none⟩ = some (.int .i64 x.k) := (blk_cell fl 2).trans rfl
    have l3 : Wo.cell? ⟨w.heap.size, 3, none⟩ = some (.slice A3 x.cs.length c3) := (blk_cell fl 3).trans rfl
    clear fl
    go_upto_region 5 with (go_at_call 42; refine HP.out.mono ?_; rintro e u0 hbk; obtain ⟨C1, C1', C3, C3', rfl, hw, hb⟩ := hbk.low (w := w); have HW3 := Aside0.mk hw; have HB3 := Aside0.mk hb; clear hw hb)
    have PA := heap_alloc_new u0 (.cells #[.int .i64 r.1.q, .slice C1 r.1.ls.length C1', .int .i64 r.1.k, .slice C3 r.1.cs.length C3'] 38)
    have FL := below_alloc (Below.refl u0.heap.size u0) (.cells #[.int .i64 r.1.q, .slice C1 r.1.ls.length C1', .int .i64 r.1.k, .slice C3 r.1.cs.length C3'] 38)
    have PL := blk_below (blk_below HF.out HB3.out) FL
    have PS := blk_below (blk_below HS.out HB3.out) FL
    have PK := (HK.out.trans (Keep_.below (HB3.out.mono HNO.out))).trans (Keep_.below (FL.mono (Nat.le_trans HNO.out HB3.out.size)))
    have PC := HW3.out.below FL
    have PB := below_step (below_step HB.out HB3.out) FL
    have PZ := Nat.le_trans HB3.out.size FL.size
    have HNA := Aside0.mk (show bs < u0.heap.size from Nat.lt_of_lt_of_le (blk_lt HS.out) HB3.out.size)
    generalize u0.alloc (.cells #[.int .i64 r.1.q, .slice C1 r.1.ls.length C1', .int .i64 r.1.k, .slice C3 r.1.cs.length C3'] 38) = W4_0 at PA FL PL PS PK PC PB PZ ⊢
    generalize u0.heap.size = ba at PA HNA ⊢
    clear FL
    have k0 : W4_0.cell? ⟨bs, 0, none⟩ = some (.int .i64 x.q) := (blk_cell PS 0).trans rfl
    have k1 : W4_0.cell? ⟨bs, 1, none⟩ = some (.slice S1 x.ls.length S1') := (blk_cell PS 1).trans rfl
    have k2 : W4_0.cell? ⟨bs, 2, none⟩ = some (.int .i64 x.k) := (blk_cell PS 2).trans rfl
    have k3 : W4_0.cell? ⟨bs, 3, none⟩ = some (.slice S3 x.cs.length S3') := (blk_cell PS 3).trans rfl
    have QA := Aside0.mk PA
    have QL := Aside0.mk PL
    have QS := Aside0.mk PS
    have QK := Aside0.mk PK
    have QC := Aside0.mk PC
    have QB := Aside0.mk PB
    have QZ := Aside0.mk PZ
    clear PA PL PS PK PC PB PZ HW3 HB3 HP l0 l1 l2 l3
    go_upto_region 6 with (go_at_call 44; refine (HQ.out W4_0 QK.out).mono ?_; rintro e v0 hbk; obtain ⟨D1, D1', D3, D3', rfl, hw, hb⟩ := hbk.low (w := w); have HW5 := Aside0.mk hw; have HB5 := Aside0.mk hb; clear hw hb)
    have PD := heap_alloc_new v0 (.cells #[.int .i64 r.1.q, .slice D1 r.1.ls.length D1', .int .i64 r.1.k, .slice D3 r.1.cs.length D3'] 38)
    have FL := below_alloc (Below.refl v0.heap.size v0) (.cells #[.int .i64 r.1.q, .slice D1 r.1.ls.length D1', .int .i64 r.1.k, .slice D3 r.1.cs.length D3'] 38)
    have PL := blk_below (blk_below QL.out HB5.out) FL
    have PS := blk_below (blk_below QS.out HB5.out) FL
    have PA := blk_below (blk_below QA.out HB5.out) FL
    have PK := (QK.out.trans (Keep_.below (HB5.out.mono (Nat.le_trans HNO.out QZ.out)))).trans (Keep_.below (FL.mono (Nat.le_trans (Nat.le_trans HNO.out QZ.out) HB5.out.size)))
    have PC := (QC.out.below HB5.out).below FL
    have PW := HW5.out.rd.below FL
    have PB := below_step (below_step QB.out HB5.out) FL
    have PZ := Nat.le_trans QZ.out (Nat.le_trans HB5.out.size FL.size)
    have HN := Aside0.mk (show w.heap.size < bs ∧ bs < ba ∧ ba < v0.heap.size from ⟨HNS.out, HNA.out, Nat.lt_of_lt_of_le (blk_lt QA.out) HB5.out.size⟩)
    generalize v0.alloc (.cells #[.int .i64 r.1.q, .slice D1 r.1.ls.length D1', .int .i64 r.1.k, .slice D3 r.1.cs.length D3'] 38) = W6_0 at PD FL PL PS PA PK PC PW PB PZ ⊢
    generalize v0.heap.size = bb at PD HN ⊢
    clear FL
    have i0 : W6_0.cell? ⟨ba, 0, none⟩ = some (.int .i64 r.1.q) := (blk_cell PA 0).trans rfl
    have i1 : W6_0.cell? ⟨ba, 1, none⟩ = some (.slice C1 r.1.ls.length C1') := (blk_cell PA 1).trans rfl
    have i2 : W6_0.cell? ⟨ba, 2, none⟩ = some (.int .i64 r.1.k) := (blk_cell PA 2).trans rfl
    have i3 : W6_0.cell? ⟨ba, 3, none⟩ = some (.slice C3 r.1.cs.length C3') := (blk_cell PA 3).trans rfl
    have j0 : W6_0.cell? ⟨bb, 0, none⟩ = some (.int .i64 r.1.q) := (blk_cell PD 0).trans rfl
    have j1 : W6_0.cell? ⟨bb, 1, none⟩ = some (.slice D1 r.1.ls.length D1') := (blk_cell PD 1).trans rfl
    have j2 : W6_0.cell? ⟨bb, 2, none⟩ = some (.int .i64 r.1.k) := (blk_cell PD 2).trans rfl
    have j3 : W6_0.cell? ⟨bb, 3, none⟩ = some (.slice D3 r.1.cs.length D3') := (blk_cell PD 3).trans rfl
    have HI := Aside0.mk (is_calls_ r.1 r.1 r.2 r.2 _ _ W6_0 Wo.heap.size PC PW HSZ.out PZ)
    rw [show (decide (r.2 = r.2) && sameL r.1 r.1) = true by rw [sameL_iff.2 rfl]; simp] at HI
    have RA := Aside0.mk PA
    have RD := Aside0.mk PD
    have RL := Aside0.mk PL
    have RS := Aside0.mk PS
    have RK := Aside0.mk PK
    have RB := Aside0.mk PB
    have RZ := Aside0.mk PZ
    clear PA PD PL PS PK PB PZ PC PW QA QL QS QK QC QB QZ HW5 HB5 HQ HSZ k0 k1 k2 k3
    go_upto_region 8 with (go_at_call 29; refine HI.out.mono ?_; rintro e W8_0 ⟨rfl, hb, hx, _⟩; have HB8 := Aside0.mk (RB.out.trans (hb.mono (show w.heap.size ≤ Wo.heap.size from HB.out.size))); have HF8 := Aside0.mk (hx _ _ RL.out); have HS8 := Aside0.mk (hx _ _ RS.out); have HA8 := Aside0.mk (hx _ _ RA.out); have HD8 := Aside0.mk (hx _ _ RD.out); have HK8 := Aside0.mk (RK.out.trans (Keep_.below (hb.mono HNO.out))); have HZ8 := Aside0.mk (show Wo.heap.size ≤ W8_0.heap.size from Nat.le_trans (Nat.le_trans HNO.out RZ.out) hb.size); clear hb hx)
    clear HB HF HS HK HI RA RD RL RS RK RB RZ HNO i0 i1 i2 i3 j0 j1 j2 j3 HNS HNA
    have HB := HB8
    have HF := HF8
    have HS := HS8
    have HK := HK8
    have HNP := HZ8
    have HA := Aside0.mk (show LBox_ W8_0 ba from ⟨_, _, _, _, HA8.out⟩)
    have HD := Aside0.mk (show LBox_ W8_0 bb from ⟨_, _, _, _, HD8.out⟩)
    clear HB8 HF8 HS8 HK8 HZ8 HA8 HD8
    obtain ⟨r, hr⟩ : ∃ r, turnR outdentF x = r := ⟨_, rfl⟩
    have HP := Aside0.mk (outdent_calls_ x _ W8_0 (HX.out.below HB.out) HZ.out (HG.out.below HB.out))
    have HQ := Aside0.mk (fun W' (hK : Keep_ Wo.heap.size Wo W') => refoutdent_calls_ x _ W' (HWO.out.keep hK).rd HZ.out)
    have HSZ := Aside0.mk (Sz_outdent HZ.out)
    rw [hr] at HP HQ HSZ
    clear hr
    have HNO := Aside0.mk (show Wo.heap.size ≤ W8_0.heap.size from HNP.out)
    have fl := HF.out
    have l0 : W8_0.cell? ⟨w.heap.size, 0, none⟩ = some (.int .i64 x.q) := (blk_cell fl 0).trans rfl
    have l1 : W8_0.cell? ⟨w.heap.size, 1, none⟩ = some (.slice A1 x.ls.length c1) := (blk_cell fl 1).trans rfl
    have l2 : W8_0.cell? ⟨w.heap.size, 2, none⟩ = some (.int .i64 x.k) := (blk_cell fl 2).trans rfl
    have l3 : W8_0.cell? ⟨w.heap.size, 3, none⟩ = some (.slice A3 x.cs.length c3) := (blk_cell fl 3).trans rfl
    clear fl
    obtain ⟨a0_, a1_, a2_, a3_, fa⟩ := HA.out
    obtain ⟨b0_, b1_, b2_, b3_, fd⟩ := HD.out
    go_upto_region 9 with (go_at_call 43; refine HP.out.mono ?_; rintro e u1 hbk; obtain ⟨C1, C1', C3, C3', rfl, hw, hb⟩ := hbk.low (w := w); have fa3 := blk_below fa hb; have i0 : u1.cell? ⟨ba, 0, none⟩ = some (a0_) := (blk_cell fa3 0).trans rfl; have ie0 : u1.frozen? ⟨ba, 0, none⟩ = false := blk_frozen fa3 0; have i1 : u1.cell? ⟨ba, 1, none⟩ = some (a1_) := (blk_cell fa3 1).trans rfl; have ie1 : u1.frozen? ⟨ba, 1, none⟩ = false := blk_frozen fa3 1; have i2 : u1.cell? ⟨ba, 2, none⟩ = some (a2_) := (blk_cell fa3 2).trans rfl; have ie2 : u1.frozen? ⟨ba, 2, none⟩ = false := blk_frozen fa3 2; have i3 : u1.cell? ⟨ba, 3, none⟩ = some (a3_) := (blk_cell fa3 3).trans rfl; have ie3 : u1.frozen? ⟨ba, 3, none⟩ = false := blk_frozen fa3 3; have FA3 := Aside0.mk fa3; clear fa3; have HW3 := Aside0.mk hw; have HB3 := Aside0.mk hb; clear hw hb)
    have PA := put4_blk (a := .int .i64 r.1.q) (b := .slice C1 r.1.ls.length C1') (c := .int .i64 r.1.k) (d := .slice C3 r.1.cs.length C3') FA3.out
    have PL := put4_off (g := ba) (a := .int .i64 r.1.q) (b := .slice C1 r.1.ls.length C1') (c := .int .i64 r.1.k) (d := .slice C3 r.1.cs.length C3') (blk_below HF.out HB3.out) (by have := HN.out; omega)
    have PS := put4_off (g := ba) (a := .int .i64 r.1.q) (b := .slice C1 r.1.ls.length C1') (c := .int .i64 r.1.k) (d := .slice C3 r.1.cs.length C3') (blk_below HS.out HB3.out) (by have := HN.out; omega)
    have PD := put4_off (g := ba) (a := .int .i64 r.1.q) (b := .slice C1 r.1.ls.length C1') (c := .int .i64 r.1.k) (d := .slice C3 r.1.cs.length C3') (blk_below fd HB3.out) (by have := HN.out; omega)
    have PK := (HK.out.trans (Keep_.below (HB3.out.mono HNO.out))).trans (Keep_.put4 (a := .int .i64 r.1.q) (b := .slice C1 r.1.ls.length C1') (c := .int .i64 r.1.k) (d := .slice C3 r.1.cs.length C3') FA3.out)
    have PC := put4_WrL (a := .int .i64 r.1.q) (b := .slice C1 r.1.ls.length C1') (c := .int .i64 r.1.k) (d := .slice C3 r.1.cs.length C3') HW3.out FA3.out
    have PB := put4_below (a := .int .i64 r.1.q) (b := .slice C1 r.1.ls.length C1') (c := .int .i64 r.1.k) (d := .slice C3 r.1.cs.length C3') (below_step HB.out HB3.out) (show w.heap.size ≤ ba by have := HN.out; omega)
    have PZ := HB3.out.size
    rw [← put4_size u1 ba (.int .i64 r.1.q) (.slice C1 r.1.ls.length C1') (.int .i64 r.1.k) (.slice C3 r.1.cs.length C3')] at PZ
    unfold put4_ at PA PL PS PD PK PC PB PZ
    generalize ((((u1.setCell ⟨ba, 0, none⟩ (.int .i64 r.1.q)).setCell ⟨ba, 1, none⟩ (.slice C1 r.1.ls.length C1')).setCell ⟨ba, 2, none⟩ (.int .i64 r.1.k)).setCell ⟨ba, 3, none⟩ (.slice C3 r.1.cs.length C3')) = W4_1 at PA PL PS PD PK PC PB PZ ⊢
    clear fa fd i0 ie0 i1 ie1 i2 ie2 i3 ie3
    have k0 : W4_1.cell? ⟨bs, 0, none⟩ = some (.int .i64 x.q) := (blk_cell PS 0).trans rfl
    have k1 : W4_1.cell? ⟨bs, 1, none⟩ = some (.slice S1 x.ls.length S1') := (blk_cell PS 1).trans rfl
    have k2 : W4_1.cell? ⟨bs, 2, none⟩ = some (.int .i64 x.k) := (blk_cell PS 2).trans rfl
    have k3 : W4_1.cell? ⟨bs, 3, none⟩ = some (.slice S3 x.cs.length S3') := (blk_cell PS 3).trans rfl
    have QA := Aside0.mk PA
    have QL := Aside0.mk PL
    have QS := Aside0.mk PS
    have QK := Aside0.mk PK
    have QC := Aside0.mk PC
    have QB := Aside0.mk PB
    have QZ := Aside0.mk PZ
    have QD := Aside0.mk PD
    clear PA PL PS PK PC PB PZ HW3 HB3 HP l0 l1 l2 l3 PD FA3
    go_upto_region 10 with (go_at_call 45; refine (HQ.out W4_1 QK.out).mono ?_; rintro e v1 hbk; obtain ⟨D1, D1', D3, D3', rfl, hw, hb⟩ := hbk.low (w := w); have fd5 := blk_below QD.out hb; have i0 : v1.cell? ⟨bb, 0, none⟩ = some (b0_) := (blk_cell fd5 0).trans rfl; have ie0 : v1.frozen? ⟨bb, 0, none⟩ = false := blk_frozen fd5 0; have i1 : v1.cell? ⟨bb, 1, none⟩ = some (b1_) := (blk_cell fd5 1).trans rfl; have ie1 : v1.frozen? ⟨bb, 1, none⟩ = false := blk_frozen fd5 1; have i2 : v1.cell? ⟨bb, 2, none⟩ = some (b2_) := (blk_cell fd5 2).trans rfl; have ie2 : v1.frozen? ⟨bb, 2, none⟩ = false := blk_frozen fd5 2; have i3 : v1.cell? ⟨bb, 3, none⟩ = some (b3_) := (blk_cell fd5 3).trans rfl; have ie3 : v1.frozen? ⟨bb, 3, none⟩ = false := blk_frozen fd5 3; have FD5 := Aside0.mk fd5; clear fd5; have HW5 := Aside0.mk hw; have HB5 := Aside0.mk hb; clear hw hb)
    have PD := put4_blk (a := .int .i64 r.1.q) (b := .slice D1 r.1.ls.length D1') (c := .int .i64 r.1.k) (d := .slice D3 r.1.cs.length D3') FD5.out
    have PL := put4_off (g := bb) (a := .int .i64 r.1.q) (b := .slice D1 r.1.ls.length D1') (c := .int .i64 r.1.k) (d := .slice D3 r.1.cs.length D3') (blk_below QL.out HB5.out) (by have := HN.out; omega)
    have PS := put4_off (g := bb) (a := .int .i64 r.1.q) (b := .slice D1 r.1.ls.length D1') (c := .int .i64 r.1.k) (d := .slice D3 r.1.cs.length D3') (blk_below QS.out HB5.out) (by have := HN.out; omega)
    have PA := put4_off (g := bb) (a := .int .i64 r.1.q) (b := .slice D1 r.1.ls.length D1') (c := .int .i64 r.1.k) (d := .slice D3 r.1.cs.length D3') (blk_below QA.out HB5.out) (by have := HN.out; omega)
    have PK := (QK.out.trans (Keep_.below (HB5.out.mono (Nat.le_trans HNO.out QZ.out)))).trans (Keep_.put4 (a := .int .i64 r.1.q) (b := .slice D1 r.1.ls.length D1') (c := .int .i64 r.1.k) (d := .slice D3 r.1.cs.length D3') FD5.out)
    have PC := put4_WrL (a := .int .i64 r.1.q) (b := .slice D1 r.1.ls.length D1') (c := .int .i64 r.1.k) (d := .slice D3 r.1.cs.length D3') (QC.out.below HB5.out) FD5.out
    have PW := (put4_WrL (a := .int .i64 r.1.q) (b := .slice D1 r.1.ls.length D1') (c := .int .i64 r.1.k) (d := .slice D3 r.1.cs.length D3') HW5.out FD5.out).rd
    have PB := put4_below (a := .int .i64 r.1.q) (b := .slice D1 r.1.ls.length D1') (c := .int .i64 r.1.k) (d := .slice D3 r.1.cs.length D3') (below_step QB.out HB5.out) (show w.heap.size ≤ bb by have := HN.out; omega)
    have PZ := Nat.le_trans QZ.out HB5.out.size
    rw [← put4_size v1 bb (.int .i64 r.1.q) (.slice D1 r.1.ls.length D1') (.int .i64 r.1.k) (.slice D3 r.1.cs.length D3')] at PZ
    unfold put4_ at PA PL PS PD PK PC PW PB PZ
    generalize ((((v1.setCell ⟨bb, 0, none⟩ (.int .i64 r.1.q)).setCell ⟨bb, 1, none⟩ (.slice D1 r.1.ls.length D1')).setCell ⟨bb, 2, none⟩ (.int .i64 r.1.k)).setCell ⟨bb, 3, none⟩ (.slice D3 r.1.cs.length D3')) = W6_1 at PA PL PS PD PK PC PW PB PZ ⊢
    clear i0 ie0 i1 ie1 i2 ie2 i3 ie3
    have i0 : W6_1.cell? ⟨ba, 0, none⟩ = some (.int .i64 r.1.q) := (blk_cell PA 0).trans rfl
    have i1 : W6_1.cell? ⟨ba, 1, none⟩ = some (.slice C1 r.1.ls.length C1') := (blk_cell PA 1).trans rfl
    have i2 : W6_1.cell? ⟨ba, 2, none⟩ = some (.int .i64 r.1.k) := (blk_cell PA 2).trans rfl
    have i3 : W6_1.cell? ⟨ba, 3, none⟩ = some (.slice C3 r.1.cs.length C3') := (blk_cell PA 3).trans rfl
    have j0 : W6_1.cell? ⟨bb, 0, none⟩ = some (.int .i64 r.1.q) := (blk_cell PD 0).trans rfl
    have j1 : W6_1.cell? ⟨bb, 1, none⟩ = some (.slice D1 r.1.ls.length D1') := (blk_cell PD 1).trans rfl
    have j2 : W6_1.cell? ⟨bb, 2, none⟩ = some (.int .i64 r.1.k) := (blk_cell PD 2).trans rfl
    have j3 : W6_1.cell? ⟨bb, 3, none⟩ = some (.slice D3 r.1.cs.length D3') := (blk_cell PD 3).trans rfl
    have HI := Aside0.mk (is_calls_ r.1 r.1 r.2 r.2 _ _ W6_1 W8_0.heap.size PC PW HSZ.out PZ)
    rw [show (decide (r.2 = r.2) && sameL r.1 r.1) = true by rw [sameL_iff.2 rfl]; simp] at HI
    have RA := Aside0.mk PA
    have RD := Aside0.mk PD
    have RL := Aside0.mk PL
    have RS := Aside0.mk PS
    have RK := Aside0.mk PK
    have RB := Aside0.mk PB
    have RZ := Aside0.mk PZ
    clear PA PD PL PS PK PB PZ PC PW QA QL QS QK QC QB QZ HW5 HB5 HQ HSZ k0 k1 k2 k3 QD FD5
    go_upto_region 12 with (go_at_call 29; refine HI.out.mono ?_; rintro e W8_1 ⟨rfl, hb, hx, _⟩; have HB8 := Aside0.mk (RB.out.trans (hb.mono (show w.heap.size ≤ W8_0.heap.size from HB.out.size))); have HF8 := Aside0.mk (hx _ _ RL.out); have HS8 := Aside0.mk (hx _ _ RS.out); have HA8 := Aside0.mk (hx _ _ RA.out); have HD8 := Aside0.mk (hx _ _ RD.out); have HK8 := Aside0.mk (RK.out.trans (Keep_.below (hb.mono HNO.out))); have HZ8 := Aside0.mk (show Wo.heap.size ≤ W8_1.heap.size from Nat.le_trans (Nat.le_trans HNO.out RZ.out) hb.size); clear hb hx)
    clear HB HF HS HK HI RA RD RL RS RK RB RZ HNO i0 i1 i2 i3 j0 j1 j2 j3 HNP HA HD
    have HB := HB8
    have HF := HF8
    have HS := HS8
    have HK := HK8
    have HNP := HZ8
    have HA := Aside0.mk (show LBox_ W8_1 ba from ⟨_, _, _, _, HA8.out⟩)
    have HD := Aside0.mk (show LBox_ W8_1 bb from ⟨_, _, _, _, HD8.out⟩)
    clear HB8 HF8 HS8 HK8 HZ8 HA8 HD8
    obtain ⟨r, hr⟩ : ∃ r, listR kind x = r := ⟨_, rfl⟩
    have HP := Aside0.mk (list_calls_ kind x _ W8_1 (HX.out.below HB.out) HZ.out (HG.out.below HB.out))
    have HQ := Aside0.mk (fun W' (hK : Keep_ Wo.heap.size Wo W') => reflist_calls_ kind x _ W' (HWO.out.keep hK).rd HZ.out)
    have HSZ := Aside0.mk (Sz_list HZ.out kind)
    rw [hr] at HP HQ HSZ
    clear hr
    have HNO := Aside0.mk (show Wo.heap.size ≤ W8_1.heap.size from HNP.out)
    have fl := HF.out
    have l0 : W8_1.cell? ⟨w.heap.size, 0, none⟩ = some (.int .i64 x.q) := (blk_cell fl 0).trans rfl
    have l1 : W8_1.cell? ⟨w.heap.size, 1, none⟩ = some (.slice A1 x.ls.length c1) := (blk_cell fl 1).trans rfl
    have l2 : W8_1.cell? ⟨w.heap.size, 2, none⟩ = some (.int .i64 x.k) := (blk_cell fl 2).trans rfl
    have l3 : W8_1.cell? ⟨w.heap.size, 3, none⟩ = some (.slice A3 x.cs.length c3) := (blk_cell fl 3).trans rfl
    clear fl
    obtain ⟨a0_, a1_, a2_, a3_, fa⟩ := HA.out
    obtain ⟨b0_, b1_, b2_, b3_, fd⟩ := HD.out
    go_upto_region 13 with (go_at_call 46; refine HP.out.mono ?_; rintro e u2 hbk; obtain ⟨C1, C1', C3, C3', rfl, hw, hb⟩ := hbk.low (w := w); have fa3 := blk_below fa hb; have i0 : u2.cell? ⟨ba, 0, none⟩ = some (a0_) := (blk_cell fa3 0).trans rfl; have ie0 : u2.frozen? ⟨ba, 0, none⟩ = false := blk_frozen fa3 0; have i1 : u2.cell? ⟨ba, 1, none⟩ = some (a1_) := (blk_cell fa3 1).trans rfl; have ie1 : u2.frozen? ⟨ba, 1, none⟩ = false := blk_frozen fa3 1; have i2 : u2.cell? ⟨ba, 2, none⟩ = some (a2_) := (blk_cell fa3 2).trans rfl; have ie2 : u2.frozen? ⟨ba, 2, none⟩ = false := blk_frozen fa3 2; have i3 : u2.cell? ⟨ba, 3, none⟩ = some (a3_) := (blk_cell fa3 3).trans rfl; have ie3 : u2.frozen? ⟨ba, 3, none⟩ = false := blk_frozen fa3 3; have FA3 := Aside0.mk fa3; clear fa3; have HW3 := Aside0.mk hw; have HB3 := Aside0.mk hb; clear hw hb)
    have PA := put4_blk (a := .int .i64 r.1.q) (b := .slice C1 r.1.ls.length C1') (c := .int .i64 r.1.k) (d := .slice C3 r.1.cs.length C3') FA3.out
    have PL := put4_off (g := ba) (a := .int .i64 r.1.q) (b := .slice C1 r.1.ls.length C1') (c := .int .i64 r.1.k) (d := .slice C3 r.1.cs.length C3') (blk_below HF.out HB3.out) (by have := HN.out; omega)
    have PS := put4_off (g := ba) (a := .int .i64 r.1.q) (b := .slice C1 r.1.ls.length C1') (c := .int .i64 r.1.k) (d := .slice C3 r.1.cs.length C3') (blk_below HS.out HB3.out) (by have := HN.out; omega)
    have PD := put4_off (g := ba) (a := .int .i64 r.1.q) (b := .slice C1 r.1.ls.length C1') (c := .int .i64 r.1.k) (d := .slice C3 r.1.cs.length C3') (blk_below fd HB3.out) (by have := HN.out; omega)
    have PK := (HK.out.trans (Keep_.below (HB3.out.mono HNO.out))).trans (Keep_.put4 (a := .int .i64 r.1.q) (b := .slice C1 r.1.ls.length C1') (c := .int .i64 r.1.k) (d := .slice C3 r.1.cs.length C3') FA3.out)
    have PC := put4_WrL (a := .int .i64 r.1.q) (b := .slice C1 r.1.ls.length C1') (c := .int .i64 r.1.k) (d := .slice C3 r.1.cs.length C3') HW3.out FA3.out
    have PB := put4_below (a := .int .i64 r.1.q) (b := .slice C1 r.1.ls.length C1') (c := .int .i64 r.1.k) (d := .slice C3 r.1.cs.length C3') (below_step HB.out HB3.out) (show w.heap.size ≤ ba by have := HN.out; omega)
    have PZ := HB3.out.size
    rw [← put4_size u2 ba (.int .i64 r.1.q) (.slice C1 r.1.ls.length C1') (.int .i64 r.1.k) (.slice C3 r.1.cs.length C3')] at PZ
    unfold put4_ at PA PL PS PD PK PC PB PZ
    generalize ((((u2.setCell ⟨ba, 0, none⟩ (.int .i64 r.1.q)).setCell ⟨ba, 1, none⟩ (.slice C1 r.1.ls.length C1')).setCell ⟨ba, 2, none⟩ (.int .i64 r.1.k)).setCell ⟨ba, 3, none⟩ (.slice C3 r.1.cs.length C3')) = W4_2 at PA PL PS PD PK PC PB PZ ⊢
    clear fa fd i0 ie0 i1 ie1 i2 ie2 i3 ie3
    have k0 : W4_2.cell? ⟨bs, 0, none⟩ = some (.int .i64 x.q) := (blk_cell PS 0).trans rfl
    have k1 : W4_2.cell? ⟨bs, 1, none⟩ = some (.slice S1 x.ls.length S1') := (blk_cell PS 1).trans rfl
    have k2 : W4_2.cell? ⟨bs, 2, none⟩ = some (.int .i64 x.k) := (blk_cell PS 2).trans rfl
    have k3 : W4_2.cell? ⟨bs, 3, none⟩ = some (.slice S3 x.cs.length S3') := (blk_cell PS 3).trans rfl
    have QA := Aside0.mk PA
    have QL := Aside0.mk PL
    have QS := Aside0.mk PS
    have QK := Aside0.mk PK
    have QC := Aside0.mk PC
    have QB := Aside0.mk PB
    have QZ := Aside0.mk PZ
    have QD := Aside0.mk PD
    clear PA PL PS PK PC PB PZ HW3 HB3 HP l0 l1 l2 l3 PD FA3
    go_upto_region 14 with (go_at_call 47; refine (HQ.out W4_2 QK.out).mono ?_; rintro e v2 hbk; obtain ⟨D1, D1', D3, D3', rfl, hw, hb⟩ := hbk.low (w := w); have fd5 := blk_below QD.out hb; have i0 : v2.cell? ⟨bb, 0, none⟩ = some (b0_) := (blk_cell fd5 0).trans rfl; have ie0 : v2.frozen? ⟨bb, 0, none⟩ = false := blk_frozen fd5 0; have i1 : v2.cell? ⟨bb, 1, none⟩ = some (b1_) := (blk_cell fd5 1).trans rfl; have ie1 : v2.frozen? ⟨bb, 1, none⟩ = false := blk_frozen fd5 1; have i2 : v2.cell? ⟨bb, 2, none⟩ = some (b2_) := (blk_cell fd5 2).trans rfl; have ie2 : v2.frozen? ⟨bb, 2, none⟩ = false := blk_frozen fd5 2; have i3 : v2.cell? ⟨bb, 3, none⟩ = some (b3_) := (blk_cell fd5 3).trans rfl; have ie3 : v2.frozen? ⟨bb, 3, none⟩ = false := blk_frozen fd5 3; have FD5 := Aside0.mk fd5; clear fd5; have HW5 := Aside0.mk hw; have HB5 := Aside0.mk hb; clear hw hb)
    have PD := put4_blk (a := .int .i64 r.1.q) (b := .slice D1 r.1.ls.length D1') (c := .int .i64 r.1.k) (d := .slice D3 r.1.cs.length D3') FD5.out
    have PL := put4_off (g := bb) (a := .int .i64 r.1.q) (b := .slice D1 r.1.ls.length D1') (c := .int .i64 r.1.k) (d := .slice D3 r.1.cs.length D3') (blk_below QL.out HB5.out) (by have := HN.out; omega)
    have PS := put4_off (g := bb) (a := .int .i64 r.1.q) (b := .slice D1 r.1.ls.length D1') (c := .int .i64 r.1.k) (d := .slice D3 r.1.cs.length D3') (blk_below QS.out HB5.out) (by have := HN.out; omega)
    have PA := put4_off (g := bb) (a := .int .i64 r.1.q) (b := .slice D1 r.1.ls.length D1') (c := .int .i64 r.1.k) (d := .slice D3 r.1.cs.length D3') (blk_below QA.out HB5.out) (by have := HN.out; omega)
    have PK := (QK.out.trans (Keep_.below (HB5.out.mono (Nat.le_trans HNO.out QZ.out)))).trans (Keep_.put4 (a := .int .i64 r.1.q) (b := .slice D1 r.1.ls.length D1') (c := .int .i64 r.1.k) (d := .slice D3 r.1.cs.length D3') FD5.out)
    have PC := put4_WrL (a := .int .i64 r.1.q) (b := .slice D1 r.1.ls.length D1') (c := .int .i64 r.1.k) (d := .slice D3 r.1.cs.length D3') (QC.out.below HB5.out) FD5.out
    have PW := (put4_WrL (a := .int .i64 r.1.q) (b := .slice D1 r.1.ls.length D1') (c := .int .i64 r.1.k) (d := .slice D3 r.1.cs.length D3') HW5.out FD5.out).rd
    have PB := put4_below (a := .int .i64 r.1.q) (b := .slice D1 r.1.ls.length D1') (c := .int .i64 r.1.k) (d := .slice D3 r.1.cs.length D3') (below_step QB.out HB5.out) (show w.heap.size ≤ bb by have := HN.out; omega)
    have PZ := Nat.le_trans QZ.out HB5.out.size
    rw [← put4_size v2 bb (.int .i64 r.1.q) (.slice D1 r.1.ls.length D1') (.int .i64 r.1.k) (.slice D3 r.1.cs.length D3')] at PZ
    unfold put4_ at PA PL PS PD PK PC PW PB PZ
    generalize ((((v2.setCell ⟨bb, 0, none⟩ (.int .i64 r.1.q)).setCell ⟨bb, 1, none⟩ (.slice D1 r.1.ls.length D1')).setCell ⟨bb, 2, none⟩ (.int .i64 r.1.k)).setCell ⟨bb, 3, none⟩ (.slice D3 r.1.cs.length D3')) = W6_2 at PA PL PS PD PK PC PW PB PZ ⊢
    clear i0 ie0 i1 ie1 i2 ie2 i3 ie3
    have i0 : W6_2.cell? ⟨ba, 0, none⟩ = some (.int .i64 r.1.q) := (blk_cell PA 0).trans rfl
    have i1 : W6_2.cell? ⟨ba, 1, none⟩ = some (.slice C1 r.1.ls.length C1') := (blk_cell PA 1).trans rfl
    have i2 : W6_2.cell? ⟨ba, 2, none⟩ = some (.int .i64 r.1.k) := (blk_cell PA 2).trans rfl
    have i3 : W6_2.cell? ⟨ba, 3, none⟩ = some (.slice C3 r.1.cs.length C3') := (blk_cell PA 3).trans rfl
    have j0 : W6_2.cell? ⟨bb, 0, none⟩ = some (.int .i64 r.1.q) := (blk_cell PD 0).trans rfl
    have j1 : W6_2.cell? ⟨bb, 1, none⟩ = some (.slice D1 r.1.ls.length D1') := (blk_cell PD 1).trans rfl
    have j2 : W6_2.cell? ⟨bb, 2, none⟩ = some (.int .i64 r.1.k) := (blk_cell PD 2).trans rfl
    have j3 : W6_2.cell? ⟨bb, 3, none⟩ = some (.slice D3 r.1.cs.length D3') := (blk_cell PD 3).trans rfl
    have HI := Aside0.mk (is_calls_ r.1 r.1 r.2 r.2 _ _ W6_2 W8_1.heap.size PC PW HSZ.out PZ)
    rw [show (decide (r.2 = r.2) && sameL r.1 r.1) = true by rw [sameL_iff.2 rfl]; simp] at HI
    have RA := Aside0.mk PA
    have RD := Aside0.mk PD
    have RL := Aside0.mk PL
    have RS := Aside0.mk PS
    have RK := Aside0.mk PK
    have RB := Aside0.mk PB
    have RZ := Aside0.mk PZ
    clear PA PD PL PS PK PB PZ PC PW QA QL QS QK QC QB QZ HW5 HB5 HQ HSZ k0 k1 k2 k3 QD FD5
    go_upto_region 16 with (go_at_call 29; refine HI.out.mono ?_; rintro e W8_2 ⟨rfl, hb, hx, _⟩; have HB8 := Aside0.mk (RB.out.trans (hb.mono (show w.heap.size ≤ W8_1.heap.size from HB.out.size))); have HF8 := Aside0.mk (hx _ _ RL.out); have HS8 := Aside0.mk (hx _ _ RS.out); have HA8 := Aside0.mk (hx _ _ RA.out); have HD8 := Aside0.mk (hx _ _ RD.out); have HK8 := Aside0.mk (RK.out.trans (Keep_.below (hb.mono HNO.out))); have HZ8 := Aside0.mk (show Wo.heap.size ≤ W8_2.heap.size from Nat.le_trans (Nat.le_trans HNO.out RZ.out) hb.size); clear hb hx)
    clear HB HF HS HK HI RA RD RL RS RK RB RZ HNO i0 i1 i2 i3 j0 j1 j2 j3 HNP HA HD
    have HB := HB8
    have HF := HF8
    have HS := HS8
    have HK := HK8
    have HNP := HZ8
    have HA := Aside0.mk (show LBox_ W8_2 ba from ⟨_, _, _, _, HA8.out⟩)
    have HD := Aside0.mk (show LBox_ W8_2 bb from ⟨_, _, _, _, HD8.out⟩)
    clear HB8 HF8 HS8 HK8 HZ8 HA8 HD8
    obtain ⟨r, hr⟩ : ∃ r, formatR kind x = r := ⟨_, rfl⟩
    have HP := Aside0.mk (format_calls_ kind x _ W8_2 (HX.out.below HB.out) HZ.out (HG.out.below HB.out))
    have HQ := Aside0.mk (fun W' (hK : Keep_ Wo.heap.size Wo W') => refformat_calls_ kind x _ W' (HWO.out.keep hK).rd HZ.out)
    have HSZ := Aside0.mk (Sz_format HZ.out kind)
    rw [hr] at HP HQ HSZ
    clear hr
    have HNO := Aside0.mk (show Wo.heap.size ≤ W8_2.heap.size from HNP.out)
    have fl := HF.out
    have l0 : W8_2.cell? ⟨w.heap.size, 0, none⟩ = some (.int .i64 x.q) := (blk_cell fl 0).trans rfl
    have l1 : W8_2.cell? ⟨w.heap.size, 1, none⟩ = some (.slice A1 x.ls.length c1) := (blk_cell fl 1).trans rfl
    have l2 : W8_2.cell? ⟨w.heap.size, 2, none⟩ = some (.int .i64 x.k) := (blk_cell fl 2).trans rfl
    have l3 : W8_2.cell? ⟨w.heap.size, 3, none⟩ = some (.slice A3 x.cs.length c3) := (blk_cell fl 3).trans rfl
    clear fl
    obtain ⟨a0_, a1_, a2_, a3_, fa⟩ := HA.out
    obtain ⟨b0_, b1_, b2_, b3_, fd⟩ := HD.out
    go_upto_region 17 with (go_at_call 48; refine HP.out.mono ?_; rintro e u3 hbk; obtain ⟨C1, C1', C3, C3', rfl, hw, hb⟩ := hbk.low (w := w); have fa3 := blk_below fa hb; have i0 : u3.cell? ⟨ba, 0, none⟩ = some (a0_) := (blk_cell fa3 0).trans rfl; have ie0 : u3.frozen? ⟨ba, 0, none⟩ = false := blk_frozen fa3 0; have i1 : u3.cell? ⟨ba, 1, none⟩ = some (a1_) := (blk_cell fa3 1).trans rfl; have ie1 : u3.frozen? ⟨ba, 1, none⟩ = false := blk_frozen fa3 1; have i2 : u3.cell? ⟨ba, 2, none⟩ = some (a2_) := (blk_cell fa3 2).trans rfl; have ie2 : u3.frozen? ⟨ba, 2, none⟩ = false := blk_frozen fa3 2; have i3 : u3.cell? ⟨ba, 3, none⟩ = some (a3_) := (blk_cell fa3 3).trans rfl; have ie3 : u3.frozen? ⟨ba, 3, none⟩ = false := blk_frozen fa3 3; have FA3 := Aside0.mk fa3; clear fa3; have HW3 := Aside0.mk hw; have HB3 := Aside0.mk hb; clear hw hb)
    have PA := put4_blk (a := .int .i64 r.1.q) (b := .slice C1 r.1.ls.length C1') (c := .int .i64 r.1.k) (d := .slice C3 r.1.cs.length C3') FA3.out
    have PL := put4_off (g := ba) (a := .int .i64 r.1.q) (b := .slice C1 r.1.ls.length C1') (c := .int .i64 r.1.k) (d := .slice C3 r.1.cs.length C3') (blk_below HF.out HB3.out) (by have := HN.out; omega)
    have PS := put4_off (g := ba) (a := .int .i64 r.1.q) (b := .slice C1 r.1.ls.length C1') (c := .int .i64 r.1.k) (d := .slice C3 r.1.cs.length C3') (blk_below HS.out HB3.out) (by have := HN.out; omega)
    have PD := put4_off (g := ba) (a := .int .i64 r.1.q) (b := .slice C1 r.1.ls.length C1') (c := .int .i64 r.1.k) (d := .slice C3 r.1.cs.length C3') (blk_below fd HB3.out) (by have := HN.out; omega)
    have PK := (HK.out.trans (Keep_.below (HB3.out.mono HNO.out))).trans (Keep_.put4 (a := .int .i64 r.1.q) (b := .slice C1 r.1.ls.length C1') (c := .int .i64 r.1.k) (d := .slice C3 r.1.cs.length C3') FA3.out)
    have PC := put4_WrL (a := .int .i64 r.1.q) (b := .slice C1 r.1.ls.length C1') (c := .int .i64 r.1.k) (d := .slice C3 r.1.cs.length C3') HW3.out FA3.out
    have PB := put4_below (a := .int .i64 r.1.q) (b := .slice C1 r.1.ls.length C1') (c := .int .i64 r.1.k) (d := .slice C3 r.1.cs.length C3') (below_step HB.out HB3.out) (show w.heap.size ≤ ba by have := HN.out; omega)
    have PZ := HB3.out.size
    rw [← put4_size u3 ba (.int .i64 r.1.q) (.slice C1 r.1.ls.length C1') (.int .i64 r.1.k) (.slice C3 r.1.cs.length C3')] at PZ
    unfold put4_ at PA PL PS PD PK PC PB PZ
    generalize ((((u3.setCell ⟨ba, 0, none⟩ (.int .i64 r.1.q)).setCell ⟨ba, 1, none⟩ (.slice C1 r.1.ls.length C1')).setCell ⟨ba, 2, none⟩ (.int .i64 r.1.k)).setCell ⟨ba, 3, none⟩ (.slice C3 r.1.cs.length C3')) = W4_3 at PA PL PS PD PK PC PB PZ ⊢
    clear fa fd i0 ie0 i1 ie1 i2 ie2 i3 ie3
    have k0 : W4_3.cell? ⟨bs, 0, none⟩ = some (.int .i64 x.q) := (blk_cell PS 0).trans rfl
    have k1 : W4_3.cell? ⟨bs, 1, none⟩ = some (.slice S1 x.ls.length S1') := (blk_cell PS 1).trans rfl
    have k2 : W4_3.cell? ⟨bs, 2, none⟩ = some (.int .i64 x.k) := (blk_cell PS 2).trans rfl
    have k3 : W4_3.cell? ⟨bs, 3, none⟩ = some (.slice S3 x.cs.length S3') := (blk_cell PS 3).trans rfl
    have QA := Aside0.mk PA
    have QL := Aside0.mk PL
    have QS := Aside0.mk PS
    have QK := Aside0.mk PK
    have QC := Aside0.mk PC
    have QB := Aside0.mk PB
    have QZ := Aside0.mk PZ
    have QD := Aside0.mk PD
    clear PA PL PS PK PC PB PZ HW3 HB3 HP l0 l1 l2 l3 PD FA3
    go_upto_region 18 with (go_at_call 49; refine (HQ.out W4_3 QK.out).mono ?_; rintro e v3 hbk; obtain ⟨D1, D1', D3, D3', rfl, hw, hb⟩ := hbk.low (w := w); have fd5 := blk_below QD.out hb; have i0 : v3.cell? ⟨bb, 0, none⟩ = some (b0_) := (blk_cell fd5 0).trans rfl; have ie0 : v3.frozen? ⟨bb, 0, none⟩ = false := blk_frozen fd5 0; have i1 : v3.cell? ⟨bb, 1, none⟩ = some (b1_) := (blk_cell fd5 1).trans rfl; have ie1 : v3.frozen? ⟨bb, 1, none⟩ = false := blk_frozen fd5 1; have i2 : v3.cell? ⟨bb, 2, none⟩ = some (b2_) := (blk_cell fd5 2).trans rfl; have ie2 : v3.frozen? ⟨bb, 2, none⟩ = false := blk_frozen fd5 2; have i3 : v3.cell? ⟨bb, 3, none⟩ = some (b3_) := (blk_cell fd5 3).trans rfl; have ie3 : v3.frozen? ⟨bb, 3, none⟩ = false := blk_frozen fd5 3; have FD5 := Aside0.mk fd5; clear fd5; have HW5 := Aside0.mk hw; have HB5 := Aside0.mk hb; clear hw hb)
    have PD := put4_blk (a := .int .i64 r.1.q) (b := .slice D1 r.1.ls.length D1') (c := .int .i64 r.1.k) (d := .slice D3 r.1.cs.length D3') FD5.out
    have PL := put4_off (g := bb) (a := .int .i64 r.1.q) (b := .slice D1 r.1.ls.length D1') (c := .int .i64 r.1.k) (d := .slice D3 r.1.cs.length D3') (blk_below QL.out HB5.out) (by have := HN.out; omega)
    have PS := put4_off (g := bb) (a := .int .i64 r.1.q) (b := .slice D1 r.1.ls.length D1') (c := .int .i64 r.1.k) (d := .slice D3 r.1.cs.length D3') (blk_below QS.out HB5.out) (by have := HN.out; omega)
    have PA := put4_off (g := bb) (a := .int .i64 r.1.q) (b := .slice D1 r.1.ls.length D1') (c := .int .i64 r.1.k) (d := .slice D3 r.1.cs.length D3') (blk_below QA.out HB5.out) (by have := HN.out; omega)
    have PK := (QK.out.trans (Keep_.below (HB5.out.mono (Nat.le_trans HNO.out QZ.out)))).trans (Keep_.put4 (a := .int .i64 r.1.q) (b := .slice D1 r.1.ls.length D1') (c := .int .i64 r.1.k) (d := .slice D3 r.1.cs.length D3') FD5.out)
    have PC := put4_WrL (a := .int .i64 r.1.q) (b := .slice D1 r.1.ls.length D1') (c := .int .i64 r.1.k) (d := .slice D3 r.1.cs.length D3') (QC.out.below HB5.out) FD5.out
    have PW := (put4_WrL (a := .int .i64 r.1.q) (b := .slice D1 r.1.ls.length D1') (c := .int .i64 r.1.k) (d := .slice D3 r.1.cs.length D3') HW5.out FD5.out).rd
    have PB := put4_below (a := .int .i64 r.1.q) (b := .slice D1 r.1.ls.length D1') (c := .int .i64 r.1.k) (d := .slice D3 r.1.cs.length D3') (below_step QB.out HB5.out) (show w.heap.size ≤ bb by have := HN.out; omega)
    have PZ := Nat.le_trans QZ.out HB5.out.size
    rw [← put4_size v3 bb (.int .i64 r.1.q) (.slice D1 r.1.ls.length D1') (.int .i64 r.1.k) (.slice D3 r.1.cs.length D3')] at PZ
    unfold put4_ at PA PL PS PD PK PC PW PB PZ
    generalize ((((v3.setCell ⟨bb, 0, none⟩ (.int .i64 r.1.q)).setCell ⟨bb, 1, none⟩ (.slice D1 r.1.ls.length D1')).setCell ⟨bb, 2, none⟩ (.int .i64 r.1.k)).setCell ⟨bb, 3, none⟩ (.slice D3 r.1.cs.length D3')) = W6_3 at PA PL PS PD PK PC PW PB PZ ⊢
    clear i0 ie0 i1 ie1 i2 ie2 i3 ie3
    have i0 : W6_3.cell? ⟨ba, 0, none⟩ = some (.int .i64 r.1.q) := (blk_cell PA 0).trans rfl
    have i1 : W6_3.cell? ⟨ba, 1, none⟩ = some (.slice C1 r.1.ls.length C1') := (blk_cell PA 1).trans rfl
    have i2 : W6_3.cell? ⟨ba, 2, none⟩ = some (.int .i64 r.1.k) := (blk_cell PA 2).trans rfl
    have i3 : W6_3.cell? ⟨ba, 3, none⟩ = some (.slice C3 r.1.cs.length C3') := (blk_cell PA 3).trans rfl
    have j0 : W6_3.cell? ⟨bb, 0, none⟩ = some (.int .i64 r.1.q) := (blk_cell PD 0).trans rfl
    have j1 : W6_3.cell? ⟨bb, 1, none⟩ = some (.slice D1 r.1.ls.length D1') := (blk_cell PD 1).trans rfl
    have j2 : W6_3.cell? ⟨bb, 2, none⟩ = some (.int .i64 r.1.k) := (blk_cell PD 2).trans rfl
    have j3 : W6_3.cell? ⟨bb, 3, none⟩ = some (.slice D3 r.1.cs.length D3') := (blk_cell PD 3).trans rfl
    have HI := Aside0.mk (is_calls_ r.1 r.1 r.2 r.2 _ _ W6_3 W8_2.heap.size PC PW HSZ.out PZ)
    rw [show (decide (r.2 = r.2) && sameL r.1 r.1) = true by rw [sameL_iff.2 rfl]; simp] at HI
    have RA := Aside0.mk PA
    have RD := Aside0.mk PD
    have RL := Aside0.mk PL
    have RS := Aside0.mk PS
    have RK := Aside0.mk PK
    have RB := Aside0.mk PB
    have RZ := Aside0.mk PZ
    clear PA PD PL PS PK PB PZ PC PW QA QL QS QK QC QB QZ HW5 HB5 HQ HSZ k0 k1 k2 k3 QD FD5
    go_upto_region 20 with (go_at_call 29; refine HI.out.mono ?_; rintro e W8_3 ⟨rfl, hb, hx, _⟩; have HB8 := Aside0.mk (RB.out.trans (hb.mono (show w.heap.size ≤ W8_2.heap.size from HB.out.size))); have HF8 := Aside0.mk (hx _ _ RL.out); have HS8 := Aside0.mk (hx _ _ RS.out); have HA8 := Aside0.mk (hx _ _ RA.out); have HD8 := Aside0.mk (hx _ _ RD.out); have HK8 := Aside0.mk (RK.out.trans (Keep_.below (hb.mono HNO.out))); have HZ8 := Aside0.mk (show Wo.heap.size ≤ W8_3.heap.size from Nat.le_trans (Nat.le_trans HNO.out RZ.out) hb.size); clear hb hx)
    clear HB HF HS HK HI RA RD RL RS RK RB RZ HNO i0 i1 i2 i3 j0 j1 j2 j3 HNP HA HD
    have HB := HB8
    have HF := HF8
    have HS := HS8
    have HK := HK8
    have HNP := HZ8
    have HA := Aside0.mk (show LBox_ W8_3 ba from ⟨_, _, _, _, HA8.out⟩)
    have HD := Aside0.mk (show LBox_ W8_3 bb from ⟨_, _, _, _, HD8.out⟩)
    clear HB8 HF8 HS8 HK8 HZ8 HA8 HD8
    obtain ⟨r, hr⟩ : ∃ r, turnR freeF x = r := ⟨_, rfl⟩
    have HP := Aside0.mk (free_calls_ x _ W8_3 (HX.out.below HB.out) HZ.out (HG.out.below HB.out))
    have HQ := Aside0.mk (fun W' (hK : Keep_ Wo.heap.size Wo W') => reffree_calls_ x _ W' (HWO.out.keep hK).rd HZ.out)
    have HSZ := Aside0.mk (Sz_free HZ.out)
    rw [hr] at HP HQ HSZ
    clear hr
    have HNO := Aside0.mk (show Wo.heap.size ≤ W8_3.heap.size from HNP.out)
    have fl := HF.out
    have l0 : W8_3.cell? ⟨w.heap.size, 0, none⟩ = some (.int .i64 x.q) := (blk_cell fl 0).trans rfl
    have l1 : W8_3.cell? ⟨w.heap.size, 1, none⟩ = some (.slice A1 x.ls.length c1) := (blk_cell fl 1).trans rfl
    have l2 : W8_3.cell? ⟨w.heap.size, 2, none⟩ = some (.int .i64 x.k) := (blk_cell fl 2).trans rfl
    have l3 : W8_3.cell? ⟨w.heap.size, 3, none⟩ = some (.slice A3 x.cs.length c3) := (blk_cell fl 3).trans rfl
    clear fl
    obtain ⟨a0_, a1_, a2_, a3_, fa⟩ := HA.out
    obtain ⟨b0_, b1_, b2_, b3_, fd⟩ := HD.out
    go_upto_region 21 with (go_at_call 50; refine HP.out.mono ?_; rintro e u4 hbk; obtain ⟨C1, C1', C3, C3', rfl, hw, hb⟩ := hbk.low (w := w); have fa3 := blk_below fa hb; have i0 : u4.cell? ⟨ba, 0, none⟩ = some (a0_) := (blk_cell fa3 0).trans rfl; have ie0 : u4.frozen? ⟨ba, 0, none⟩ = false := blk_frozen fa3 0; have i1 : u4.cell? ⟨ba, 1, none⟩ = some (a1_) := (blk_cell fa3 1).trans rfl; have ie1 : u4.frozen? ⟨ba, 1, none⟩ = false := blk_frozen fa3 1; have i2 : u4.cell? ⟨ba, 2, none⟩ = some (a2_) := (blk_cell fa3 2).trans rfl; have ie2 : u4.frozen? ⟨ba, 2, none⟩ = false := blk_frozen fa3 2; have i3 : u4.cell? ⟨ba, 3, none⟩ = some (a3_) := (blk_cell fa3 3).trans rfl; have ie3 : u4.frozen? ⟨ba, 3, none⟩ = false := blk_frozen fa3 3; have FA3 := Aside0.mk fa3; clear fa3; have HW3 := Aside0.mk hw; have HB3 := Aside0.mk hb; clear hw hb)
    have PA := put4_blk (a := .int .i64 r.1.q) (b := .slice C1 r.1.ls.length C1') (c := .int .i64 r.1.k) (d := .slice C3 r.1.cs.length C3') FA3.out
    have PL := put4_off (g := ba) (a := .int .i64 r.1.q) (b := .slice C1 r.1.ls.length C1') (c := .int .i64 r.1.k) (d := .slice C3 r.1.cs.length C3') (blk_below HF.out HB3.out) (by have := HN.out; omega)
    have PS := put4_off (g := ba) (a := .int .i64 r.1.q) (b := .slice C1 r.1.ls.length C1') (c := .int .i64 r.1.k) (d := .slice C3 r.1.cs.length C3') (blk_below HS.out HB3.out) (by have := HN.out; omega)
    have PD := put4_off (g := ba) (a := .int .i64 r.1.q) (b := .slice C1 r.1.ls.length C1') (c := .int .i64 r.1.k) (d := .slice C3 r.1.cs.length C3') (blk_below fd HB3.out) (by have := HN.out; omega)
    have PK := (HK.out.trans (Keep_.below (HB3.out.mono HNO.out))).trans (Keep_.put4 (a := .int .i64 r.1.q) (b := .slice C1 r.1.ls.length C1') (c := .int .i64 r.1.k) (d := .slice C3 r.1.cs.length C3') FA3.out)
    have PC := put4_WrL (a := .int .i64 r.1.q) (b := .slice C1 r.1.ls.length C1') (c := .int .i64 r.1.k) (d := .slice C3 r.1.cs.length C3') HW3.out FA3.out
    have PB := put4_below (a := .int .i64 r.1.q) (b := .slice C1 r.1.ls.length C1') (c := .int .i64 r.1.k) (d := .slice C3 r.1.cs.length C3') (below_step HB.out HB3.out) (show w.heap.size ≤ ba by have := HN.out; omega)
    have PZ := HB3.out.size
    rw [← put4_size u4 ba (.int .i64 r.1.q) (.slice C1 r.1.ls.length C1') (.int .i64 r.1.k) (.slice C3 r.1.cs.length C3')] at PZ
    unfold put4_ at PA PL PS PD PK PC PB PZ
    generalize ((((u4.setCell ⟨ba, 0, none⟩ (.int .i64 r.1.q)).setCell ⟨ba, 1, none⟩ (.slice C1 r.1.ls.length C1')).setCell ⟨ba, 2, none⟩ (.int .i64 r.1.k)).setCell ⟨ba, 3, none⟩ (.slice C3 r.1.cs.length C3')) = W4_4 at PA PL PS PD PK PC PB PZ ⊢
    clear fa fd i0 ie0 i1 ie1 i2 ie2 i3 ie3
    have k0 : W4_4.cell? ⟨bs, 0, none⟩ = some (.int .i64 x.q) := (blk_cell PS 0).trans rfl
    have k1 : W4_4.cell? ⟨bs, 1, none⟩ = some (.slice S1 x.ls.length S1') := (blk_cell PS 1).trans rfl
    have k2 : W4_4.cell? ⟨bs, 2, none⟩ = some (.int .i64 x.k) := (blk_cell PS 2).trans rfl
    have k3 : W4_4.cell? ⟨bs, 3, none⟩ = some (.slice S3 x.cs.length S3') := (blk_cell PS 3).trans rfl
    have QA := Aside0.mk PA
    have QL := Aside0.mk PL
    have QS := Aside0.mk PS
    have QK := Aside0.mk PK
    have QC := Aside0.mk PC
    have QB := Aside0.mk PB
    have QZ := Aside0.mk PZ
    have QD := Aside0.mk PD
    clear PA PL PS PK PC PB PZ HW3 HB3 HP l0 l1 l2 l3 PD FA3
    go_upto_region 22 with (go_at_call 51; refine (HQ.out W4_4 QK.out).mono ?_; rintro e v4 hbk; obtain ⟨D1, D1', D3, D3', rfl, hw, hb⟩ := hbk.low (w := w); have fd5 := blk_below QD.out hb; have i0 : v4.cell? ⟨bb, 0, none⟩ = some (b0_) := (blk_cell fd5 0).trans rfl; have ie0 : v4.frozen? ⟨bb, 0, none⟩ = false := blk_frozen fd5 0; have i1 : v4.cell? ⟨bb, 1, none⟩ = some (b1_) := (blk_cell fd5 1).trans rfl; have ie1 : v4.frozen? ⟨bb, 1, none⟩ = false := blk_frozen fd5 1; have i2 : v4.cell? ⟨bb, 2, none⟩ = some (b2_) := (blk_cell fd5 2).trans rfl; have ie2 : v4.frozen? ⟨bb, 2, none⟩ = false := blk_frozen fd5 2; have i3 : v4.cell? ⟨bb, 3, none⟩ = some (b3_) := (blk_cell fd5 3).trans rfl; have ie3 : v4.frozen? ⟨bb, 3, none⟩ = false := blk_frozen fd5 3; have FD5 := Aside0.mk fd5; clear fd5; have HW5 := Aside0.mk hw; have HB5 := Aside0.mk hb; clear hw hb)
    have PD := put4_blk (a := .int .i64 r.1.q) (b := .slice D1 r.1.ls.length D1') (c := .int .i64 r.1.k) (d := .slice D3 r.1.cs.length D3') FD5.out
    have PL := put4_off (g := bb) (a := .int .i64 r.1.q) (b := .slice D1 r.1.ls.length D1') (c := .int .i64 r.1.k) (d := .slice D3 r.1.cs.length D3') (blk_below QL.out HB5.out) (by have := HN.out; omega)
    have PS := put4_off (g := bb) (a := .int .i64 r.1.q) (b := .slice D1 r.1.ls.length D1') (c := .int .i64 r.1.k) (d := .slice D3 r.1.cs.length D3') (blk_below QS.out HB5.out) (by have := HN.out; omega)
    have PA := put4_off (g := bb) (a := .int .i64 r.1.q) (b := .slice D1 r.1.ls.length D1') (c := .int .i64 r.1.k) (d := .slice D3 r.1.cs.length D3') (blk_below QA.out HB5.out) (by have := HN.out; omega)
    have PK := (QK.out.trans (Keep_.below (HB5.out.mono (Nat.le_trans HNO.out QZ.out)))).trans (Keep_.put4 (a := .int .i64 r.1.q) (b := .slice D1 r.1.ls.length D1') (c := .int .i64 r.1.k) (d := .slice D3 r.1.cs.length D3') FD5.out)
    have PC := put4_WrL (a := .int .i64 r.1.q) (b := .slice D1 r.1.ls.length D1') (c := .int .i64 r.1.k) (d := .slice D3 r.1.cs.length D3') (QC.out.below HB5.out) FD5.out
    have PW := (put4_WrL (a := .int .i64 r.1.q) (b := .slice D1 r.1.ls.length D1') (c := .int .i64 r.1.k) (d := .slice D3 r.1.cs.length D3') HW5.out FD5.out).rd
    have PB := put4_below (a := .int .i64 r.1.q) (b := .slice D1 r.1.ls.length D1') (c := .int .i64 r.1.k) (d := .slice D3 r.1.cs.length D3') (below_step QB.out HB5.out) (show w.heap.size ≤ bb by have := HN.out; omega)
    have PZ := Nat.le_trans QZ.out HB5.out.size
    rw [← put4_size v4 bb (.int .i64 r.1.q) (.slice D1 r.1.ls.length D1') (.int .i64 r.1.k) (.slice D3 r.1.cs.length D3')] at PZ
    unfold put4_ at PA PL PS PD PK PC PW PB PZ
    generalize ((((v4.setCell ⟨bb, 0, none⟩ (.int .i64 r.1.q)).setCell ⟨bb, 1, none⟩ (.slice D1 r.1.ls.length D1')).setCell ⟨bb, 2, none⟩ (.int .i64 r.1.k)).setCell ⟨bb, 3, none⟩ (.slice D3 r.1.cs.length D3')) = W6_4 at PA PL PS PD PK PC PW PB PZ ⊢
    clear i0 ie0 i1 ie1 i2 ie2 i3 ie3
    have i0 : W6_4.cell? ⟨ba, 0, none⟩ = some (.int .i64 r.1.q) := (blk_cell PA 0).trans rfl
    have i1 : W6_4.cell? ⟨ba, 1, none⟩ = some (.slice C1 r.1.ls.length C1') := (blk_cell PA 1).trans rfl
    have i2 : W6_4.cell? ⟨ba, 2, none⟩ = some (.int .i64 r.1.k) := (blk_cell PA 2).trans rfl
    have i3 : W6_4.cell? ⟨ba, 3, none⟩ = some (.slice C3 r.1.cs.length C3') := (blk_cell PA 3).trans rfl
    have j0 : W6_4.cell? ⟨bb, 0, none⟩ = some (.int .i64 r.1.q) := (blk_cell PD 0).trans rfl
    have j1 : W6_4.cell? ⟨bb, 1, none⟩ = some (.slice D1 r.1.ls.length D1') := (blk_cell PD 1).trans rfl
    have j2 : W6_4.cell? ⟨bb, 2, none⟩ = some (.int .i64 r.1.k) := (blk_cell PD 2).trans rfl
    have j3 : W6_4.cell? ⟨bb, 3, none⟩ = some (.slice D3 r.1.cs.length D3') := (blk_cell PD 3).trans rfl
    have HI := Aside0.mk (is_calls_ r.1 r.1 r.2 r.2 _ _ W6_4 W8_3.heap.size PC PW HSZ.out PZ)
    rw [show (decide (r.2 = r.2) && sameL r.1 r.1) = true by rw [sameL_iff.2 rfl]; simp] at HI
    have RA := Aside0.mk PA
    have RD := Aside0.mk PD
    have RL := Aside0.mk PL
    have RS := Aside0.mk PS
    have RK := Aside0.mk PK
    have RB := Aside0.mk PB
    have RZ := Aside0.mk PZ
    clear PA PD PL PS PK PB PZ PC PW QA QL QS QK QC QB QZ HW5 HB5 HQ HSZ k0 k1 k2 k3 QD FD5
    go_wp2_with (first | (go_at_call 29; refine HI.out.mono ?_; rintro e W8_4 ⟨rfl, hb, hx, _⟩; have HB8 := Aside0.mk (RB.out.trans (hb.mono (show w.heap.size ≤ W8_3.heap.size from HB.out.size))); have HF8 := Aside0.mk (hx _ _ RL.out); have HS8 := Aside0.mk (hx _ _ RS.out); have HA8 := Aside0.mk (hx _ _ RA.out); have HD8 := Aside0.mk (hx _ _ RD.out); have HK8 := Aside0.mk (RK.out.trans (Keep_.below (hb.mono HNO.out))); have HZ8 := Aside0.mk (show Wo.heap.size ≤ W8_4.heap.size from Nat.le_trans (Nat.le_trans HNO.out RZ.out) hb.size); have fl := HF8.out; have l0 : W8_4.cell? ⟨w.heap.size, 0, none⟩ = some (.int .i64 x.q) := (blk_cell fl 0).trans rfl; have l1 : W8_4.cell? ⟨w.heap.size, 1, none⟩ = some (.slice A1 x.ls.length c1) := (blk_cell fl 1).trans rfl; have l2 : W8_4.cell? ⟨w.heap.size, 2, none⟩ = some (.int .i64 x.k) := (blk_cell fl 2).trans rfl; have l3 : W8_4.cell? ⟨w.heap.size, 3, none⟩ = some (.slice A3 x.cs.length c3) := (blk_cell fl 3).trans rfl; have fs := HS8.out; have k0 : W8_4.cell? ⟨bs, 0, none⟩ = some (.int .i64 x.q) := (blk_cell fs 0).trans rfl; have k1 : W8_4.cell? ⟨bs, 1, none⟩ = some (.slice S1 x.ls.length S1') := (blk_cell fs 1).trans rfl; have k2 : W8_4.cell? ⟨bs, 2, none⟩ = some (.int .i64 x.k) := (blk_cell fs 2).trans rfl; have k3 : W8_4.cell? ⟨bs, 3, none⟩ = some (.slice S3 x.cs.length S3') := (blk_cell fs 3).trans rfl; clear fl fs; have HSM := Aside0.mk (refsame_calls_ x x _ _ W8_4 (HX.out.below HB8.out) (HWO.out.keep HK8.out).rd HZ.out); rw [sameL_iff.2 rfl] at HSM; clear hb hx) | (go_at_call 32; refine HSM.out.mono ?_; rintro e w9 ⟨rfl, hb⟩; have HB9 := Aside0.mk (below_step HB8.out hb); clear hb) | (go_at_call 25; refine (HAW.out _ HB9.out).mono ?_; rintro e wz ⟨rfl, hb⟩; have HBZ := Aside0.mk hb; clear hb))
    go_ret
    exact ⟨rfl, below_step HB9.out HBZ.out⟩
end Go.Proofs.YtgdpknmffohhaaaDoor.Pl
