/- lines.Indent, Outdent, List, Format, Free. -/
import Derived.Test.YtgdpknmffohhaaaDoorLineDone
namespace Go.Proofs.YtgdpknmffohhaaaDoor.Pl
open Go.RowKit Go.Lib Go.Proofs.YtgdpknmffohhaaaDoorW.PrintWords Go.Proofs.YtgdpknmffohhaaaDoorW.PrintLast Go.Proofs.YtgdpknmffohhaaaDoorW.PrintMore
set_option linter.unusedVariables false
theorem three_boxes_ (w : World) (O1 O2 O3 : Obj) : (((w.alloc O1).alloc O2).alloc O3).heap[w.heap.size]? = some O1 ∧ (((w.alloc O1).alloc O2).alloc O3).heap[w.heap.size + 1]? = some O2 ∧ (((w.alloc O1).alloc O2).alloc O3).heap[w.heap.size + 2]? = some O3 ∧ Below w.heap.size w (((w.alloc O1).alloc O2).alloc O3) := by
  obtain ⟨h1, h2, h3⟩ := two_boxes_ w O1 O2
  refine ⟨blk_alloc h1 O3, blk_alloc h2 O3, ?_, below_alloc h3 O3⟩
  have h := heap_alloc_new ((w.alloc O1).alloc O2) O3
  rwa [World.size_alloc, World.size_alloc] at h
def listR (kind : Int) (x : Ln) : Ln × Int := if kind = 0 ∨ kind = 1 then turnR (listF kind) x else (zeroLn, 1)
def formatR (kind : Int) (x : Ln) : Ln × Int := if 0 ≤ kind ∧ kind ≤ 3 then turnR (formatF kind) x else (zeroLn, 1)
theorem Back_.low {w W0 : World} {r : Ln × Int} {e : Ending} {w' : World} (h : Back_ W0 r e w') : ∃ B1 d1 B3 d3, e = .returned (.tuple #[.agg #[.int .i64 r.1.q, .slice B1 r.1.ls.length d1, .int .i64 r.1.k, .slice B3 r.1.cs.length d3], .int .i64 r.2]) ∧ WrL w' W0.heap.size (.agg #[.int .i64 r.1.q, .slice B1 r.1.ls.length d1, .int .i64 r.1.k, .slice B3 r.1.cs.length d3]) r.1 ∧ Below W0.heap.size W0 w' := by
  obtain ⟨v', rfl, ⟨u1, u3, rfl, h1, h3⟩, hb⟩ := h
  obtain ⟨B1, d1, rfl⟩ := h1.slice_
  obtain ⟨B3, d3, rfl⟩ := h3.slice_
  exact ⟨B1, d1, B3, d3, rfl, ⟨_, _, rfl, h1, h3⟩, hb⟩
set_option maxRecDepth 100000 in
set_option maxHeartbeats 4000000 in
theorem indent_calls_ (x : Ln) (v : Value) (w : World) (hx : RdL w v x) (hz : Sz x) (hG : Gl_ w) :
    Calls Tryd.prog 42 #[v] w fun e w' => Back_ w (turnR indentF x) e w' := by
  have hu38 := Tryd.underlying38
  obtain ⟨_, _, rfl, ⟨A1, c1, rfl, h1, hc1⟩, ⟨A3, c3, rfl, h3, hc3⟩⟩ := hx
  have hX : RdL w (.agg #[.int .i64 x.q, .slice A1 x.ls.length c1, .int .i64 x.k, .slice A3 x.cs.length c3]) x := ⟨_, _, rfl, ⟨A1, c1, rfl, h1, hc1⟩, ⟨A3, c3, rfl, h3, hc3⟩⟩
  have HC := Aside0.mk (fun W (hW : Below w.heap.size w W) => turned_calls_ x _ W 89 #[] indentF (hX.below hW) hz (hG.below hW) (enters_of Tryd.func89 (by kernel_rfl) rfl) (indent_turns_ W))
  obtain ⟨F1, F2, F3⟩ := two_boxes_ w (.cells #[.int .i64 x.q, .slice A1 x.ls.length c1, .int .i64 x.k, .slice A3 x.cs.length c3] 38) (.cells #[.int .i64 0, .slice none 0 0, .int .i64 0, .slice none 0 0] 38)
  clear h1 h3 hc1 hc3 hz hG hX
  generalize turnR indentF x = r at HC ⊢
  obtain ⟨y, ey⟩ := r
  go_enter Tryd.func42, Tryd.ntmps42
  go_upto_region 1 with (fail)
  generalize (w.alloc (.cells #[.int .i64 x.q, .slice A1 x.ls.length c1, .int .i64 x.k, .slice A3 x.cs.length c3] 38)).alloc (.cells #[.int .i64 0, .slice none 0 0, .int .i64 0, .slice none 0 0] 38) = W0 at F1 F2 F3 ⊢
  have a0 : W0.cell? ⟨w.heap.size, 0, none⟩ = some (.int .i64 x.q) := (blk_cell F1 0).trans rfl
  have a1 : W0.cell? ⟨w.heap.size, 1, none⟩ = some (.slice A1 x.ls.length c1) := (blk_cell F1 1).trans rfl
  have a2 : W0.cell? ⟨w.heap.size, 2, none⟩ = some (.int .i64 x.k) := (blk_cell F1 2).trans rfl
  have a3 : W0.cell? ⟨w.heap.size, 3, none⟩ = some (.slice A3 x.cs.length c3) := (blk_cell F1 3).trans rfl
  have H2 := Aside0.mk F2
  have H3 := Aside0.mk F3
  clear F1 F2 F3
  go_wp2_with (go_at_call 88; refine (HC.out _ H3.out).mono ?_; rintro e w1 hbk; obtain ⟨B1, d1, B3, d3, rfl, hw, hb⟩ := hbk.low (w := w); have HW := Aside0.mk hw; have HB1 := Aside0.mk hb; have fb := blk_below H2.out hb; have e0 := blk_frozen fb 0; have e1 := blk_frozen fb 1; have e2 := blk_frozen fb 2; have e3 := blk_frozen fb 3; have b0 : w1.cell? ⟨w.heap.size + 1, 0, none⟩ = some (.int .i64 0) := (blk_cell fb 0).trans rfl; have b1 : w1.cell? ⟨w.heap.size + 1, 1, none⟩ = some (.slice none 0 0) := (blk_cell fb 1).trans rfl; have b2 : w1.cell? ⟨w.heap.size + 1, 2, none⟩ = some (.int .i64 0) := (blk_cell fb 2).trans rfl; have b3 : w1.cell? ⟨w.heap.size + 1, 3, none⟩ = some (.slice none 0 0) := (blk_cell fb 3).trans rfl; have FB := Aside0.mk fb; clear hw hb fb)
  refine bodyPost_ret (results_ct rfl _ _ (w.heap.size + 1) 38 #[.int .i64 y.q, .slice B1 y.ls.length d1, .int .i64 y.k, .slice B3 y.cs.length d3] (0, 0) _ rfl (put4_blk FB.out) Tryd.underlying38 rfl (by kernel_rfl)) rfl ?_
  exact ⟨_, rfl, put4_WrL (HW.out.lower (below_size H3.out)) FB.out, put4_below (below_step H3.out HB1.out) (by omega)⟩
set_option maxRecDepth 100000 in
set_option maxHeartbeats 4000000 in
theorem outdent_calls_ (x : Ln) (v : Value) (w : World) (hx : RdL w v x) (hz : Sz x) (hG : Gl_ w) :
    Calls Tryd.prog 43 #[v] w fun e w' => Back_ w (turnR outdentF x) e w' := by
  have hu38 := Tryd.underlying38
  obtain ⟨_, _, rfl, ⟨A1, c1, rfl, h1, hc1⟩, ⟨A3, c3, rfl, h3, hc3⟩⟩ := hx
  have hX : RdL w (.agg #[.int .i64 x.q, .slice A1 x.ls.length c1, .int .i64 x.k, .slice A3 x.cs.length c3]) x := ⟨_, _, rfl, ⟨A1, c1, rfl, h1, hc1⟩, ⟨A3, c3, rfl, h3, hc3⟩⟩
  have HC := Aside0.mk (fun W (hW : Below w.heap.size w W) => turned_calls_ x _ W 91 #[] outdentF (hX.below hW) hz (hG.below hW) (enters_of Tryd.func91 (by kernel_rfl) rfl) (outdent_turns_ W))
  obtain ⟨F1, F2, F3⟩ := two_boxes_ w (.cells #[.int .i64 x.q, .slice A1 x.ls.length c1, .int .i64 x.k, .slice A3 x.cs.length c3] 38) (.cells #[.int .i64 0, .slice none 0 0, .int .i64 0, .slice none 0 0] 38)
  clear h1 h3 hc1 hc3 hz hG hX
  generalize turnR outdentF x = r at HC ⊢
  obtain ⟨y, ey⟩ := r
  go_enter Tryd.func43, Tryd.ntmps43
  go_upto_region 1 with (fail)
  generalize (w.alloc (.cells #[.int .i64 x.q, .slice A1 x.ls.length c1, .int .i64 x.k, .slice A3 x.cs.length c3] 38)).alloc (.cells #[.int .i64 0, .slice none 0 0, .int .i64 0, .slice none 0 0] 38) = W0 at F1 F2 F3 ⊢
  have a0 : W0.cell? ⟨w.heap.size, 0, none⟩ = some (.int .i64 x.q) := (blk_cell F1 0).trans rfl
  have a1 : W0.cell? ⟨w.heap.size, 1, none⟩ = some (.slice A1 x.ls.length c1) := (blk_cell F1 1).trans rfl
  have a2 : W0.cell? ⟨w.heap.size, 2, none⟩ = some (.int .i64 x.k) := (blk_cell F1 2).trans rfl
  have a3 : W0.cell? ⟨w.heap.size, 3, none⟩ = some (.slice A3 x.cs.length c3) := (blk_cell F1 3).trans rfl
  have H2 := Aside0.mk F2
  have H3 := Aside0.mk F3
  clear F1 F2 F3
  go_wp2_with (go_at_call 88; refine (HC.out _ H3.out).mono ?_; rintro e w1 hbk; obtain ⟨B1, d1, B3, d3, rfl, hw, hb⟩ := hbk.low (w := w); have HW := Aside0.mk hw; have HB1 := Aside0.mk hb; have fb := blk_below H2.out hb; have e0 := blk_frozen fb 0; have e1 := blk_frozen fb 1; have e2 := blk_frozen fb 2; have e3 := blk_frozen fb 3; have b0 : w1.cell? ⟨w.heap.size + 1, 0, none⟩ = some (.int .i64 0) := (blk_cell fb 0).trans rfl; have b1 : w1.cell? ⟨w.heap.size + 1, 1, none⟩ = some (.slice none 0 0) := (blk_cell fb 1).trans rfl; have b2 : w1.cell? ⟨w.heap.size + 1, 2, none⟩ = some (.int .i64 0) := (blk_cell fb 2).trans rfl; have b3 : w1.cell? ⟨w.heap.size + 1, 3, none⟩ = some (.slice none 0 0) := (blk_cell fb 3).trans rfl; have FB := Aside0.mk fb; clear hw hb fb)
  refine bodyPost_ret (results_ct rfl _ _ (w.heap.size + 1) 38 #[.int .i64 y.q, .slice B1 y.ls.length d1, .int .i64 y.k, .slice B3 y.cs.length d3] (0, 0) _ rfl (put4_blk FB.out) Tryd.underlying38 rfl (by kernel_rfl)) rfl ?_
  exact ⟨_, rfl, put4_WrL (HW.out.lower (below_size H3.out)) FB.out, put4_below (below_step H3.out HB1.out) (by omega)⟩
set_option maxRecDepth 100000 in
set_option maxHeartbeats 4000000 in
theorem free_calls_ (x : Ln) (v : Value) (w : World) (hx : RdL w v x) (hz : Sz x) (hG : Gl_ w) :
    Calls Tryd.prog 50 #[v] w fun e w' => Back_ w (turnR freeF x) e w' := by
  have hu38 := Tryd.underlying38
  obtain ⟨_, _, rfl, ⟨A1, c1, rfl, h1, hc1⟩, ⟨A3, c3, rfl, h3, hc3⟩⟩ := hx
  have hX : RdL w (.agg #[.int .i64 x.q, .slice A1 x.ls.length c1, .int .i64 x.k, .slice A3 x.cs.length c3]) x := ⟨_, _, rfl, ⟨A1, c1, rfl, h1, hc1⟩, ⟨A3, c3, rfl, h3, hc3⟩⟩
  have HC := Aside0.mk (fun W (hW : Below w.heap.size w W) => turned_calls_ x _ W 95 #[] freeF (hX.below hW) hz (hG.below hW) (enters_of Tryd.func95 (by kernel_rfl) rfl) (free_turns_ W))
  obtain ⟨F1, F2, F3⟩ := two_boxes_ w (.cells #[.int .i64 x.q, .slice A1 x.ls.length c1, .int .i64 x.k, .slice A3 x.cs.length c3] 38) (.cells #[.int .i64 0, .slice none 0 0, .int .i64 0, .slice none 0 0] 38)
  clear h1 h3 hc1 hc3 hz hG hX
  generalize turnR freeF x = r at HC ⊢
  obtain ⟨y, ey⟩ := r
  go_enter Tryd.func50, Tryd.ntmps50
  go_upto_region 1 with (fail)
  generalize (w.alloc (.cells #[.int .i64 x.q, .slice A1 x.ls.length c1, .int .i64 x.k, .slice A3 x.cs.length c3] 38)).alloc (.cells #[.int .i64 0, .slice none 0 0, .int .i64 0, .slice none 0 0] 38) = W0 at F1 F2 F3 ⊢
  have a0 : W0.cell? ⟨w.heap.size, 0, none⟩ = some (.int .i64 x.q) := (blk_cell F1 0).trans rfl
  have a1 : W0.cell? ⟨w.heap.size, 1, none⟩ = some (.slice A1 x.ls.length c1) := (blk_cell F1 1).trans rfl
  have a2 : W0.cell? ⟨w.heap.size, 2, none⟩ = some (.int .i64 x.k) := (blk_cell F1 2).trans rfl
  have a3 : W0.cell? ⟨w.heap.size, 3, none⟩ = some (.slice A3 x.cs.length c3) := (blk_cell F1 3).trans rfl
  have H2 := Aside0.mk F2
  have H3 := Aside0.mk F3
  clear F1 F2 F3
  go_wp2_with (go_at_call 88; refine (HC.out _ H3.out).mono ?_; rintro e w1 hbk; obtain ⟨B1, d1, B3, d3, rfl, hw, hb⟩ := hbk.low (w := w); have HW := Aside0.mk hw; have HB1 := Aside0.mk hb; have fb := blk_below H2.out hb; have e0 := blk_frozen fb 0; have e1 := blk_frozen fb 1; have e2 := blk_frozen fb 2; have e3 := blk_frozen fb 3; have b0 : w1.cell? ⟨w.heap.size + 1, 0, none⟩ = some (.int .i64 0) := (blk_cell fb 0).trans rfl; have b1 : w1.cell? ⟨w.heap.size + 1, 1, none⟩ = some (.slice none 0 0) := (blk_cell fb 1).trans rfl; have b2 : w1.cell? ⟨w.heap.size + 1, 2, none⟩ = some (.int .i64 0) := (blk_cell fb 2).trans rfl; have b3 : w1.cell? ⟨w.heap.size + 1, 3, none⟩ = some (.slice none 0 0) := (blk_cell fb 3).trans rfl; have FB := Aside0.mk fb; clear hw hb fb)
  refine bodyPost_ret (results_ct rfl _ _ (w.heap.size + 1) 38 #[.int .i64 y.q, .slice B1 y.ls.length d1, .int .i64 y.k, .slice B3 y.cs.length d3] (0, 0) _ rfl (put4_blk FB.out) Tryd.underlying38 rfl (by kernel_rfl)) rfl ?_
  exact ⟨_, rfl, put4_WrL (HW.out.lower (below_size H3.out)) FB.out, put4_below (below_step H3.out HB1.out) (by omega)⟩
set_option maxRecDepth 100000 in
set_option maxHeartbeats 4000000 in
theorem list_calls_ (kind : Int) (x : Ln) (v : Value) (w : World) (hx : RdL w v x) (hz : Sz x) (hG : Gl_ w) :
    Calls Tryd.prog 46 #[v, .int .i64 kind] w fun e w' => Back_ w (listR kind x) e w' := by
  have hu38 := Tryd.underlying38
  obtain ⟨_, _, rfl, ⟨A1, c1, rfl, h1, hc1⟩, ⟨A3, c3, rfl, h3, hc3⟩⟩ := hx
  have hX : RdL w (.agg #[.int .i64 x.q, .slice A1 x.ls.length c1, .int .i64 x.k, .slice A3 x.cs.length c3]) x := ⟨_, _, rfl, ⟨A1, c1, rfl, h1, hc1⟩, ⟨A3, c3, rfl, h3, hc3⟩⟩
  have HC := Aside0.mk (fun W (hW : Below w.heap.size w W) (hk : W.cell? ⟨w.heap.size + 1, 0, none⟩ = some (.int .i64 kind)) => turned_calls_ x _ W 93 #[.pointer (some ⟨w.heap.size + 1, 0, none⟩)] (listF kind) (hX.below hW) hz (hG.below hW) (enters_of Tryd.func93 (by kernel_rfl) rfl) (list_turns_ W kind _ hk))
  obtain ⟨F1, F1', F2, F3⟩ := three_boxes_ w (.cells #[.int .i64 x.q, .slice A1 x.ls.length c1, .int .i64 x.k, .slice A3 x.cs.length c3] 38) (.cells #[.int .i64 kind] 3) (.cells #[.int .i64 0, .slice none 0 0, .int .i64 0, .slice none 0 0] 38)
  clear h1 h3 hc1 hc3 hz hG hX
  by_cases k0_ : kind = 0
  · have t0 : (kind != 0) = false := bne_eq_false_iff_eq.mpr k0_
    have HR := Aside0.mk (show listR kind x = turnR (listF kind) x by unfold listR; rw [if_pos (.inl k0_)])
    clear k0_
    rw [HR.out]
    generalize turnR (listF kind) x = r at HC ⊢
    obtain ⟨y, ey⟩ := r
    go_enter Tryd.func46, Tryd.ntmps46
    go_upto_region 1 with (fail)
    generalize ((w.alloc (.cells #[.int .i64 x.q, .slice A1 x.ls.length c1, .int .i64 x.k, .slice A3 x.cs.length c3] 38)).alloc (.cells #[.int .i64 kind] 3)).alloc (.cells #[.int .i64 0, .slice none 0 0, .int .i64 0, .slice none 0 0] 38) = W0 at F1 F1' F2 F3 ⊢
    have a0 : W0.cell? ⟨w.heap.size, 0, none⟩ = some (.int .i64 x.q) := (blk_cell F1 0).trans rfl
    have a1 : W0.cell? ⟨w.heap.size, 1, none⟩ = some (.slice A1 x.ls.length c1) := (blk_cell F1 1).trans rfl
    have a2 : W0.cell? ⟨w.heap.size, 2, none⟩ = some (.int .i64 x.k) := (blk_cell F1 2).trans rfl
    have a3 : W0.cell? ⟨w.heap.size, 3, none⟩ = some (.slice A3 x.cs.length c3) := (blk_cell F1 3).trans rfl
    have k0 : W0.cell? ⟨w.heap.size + 1, 0, none⟩ = some (.int .i64 kind) := (blk_cell F1' 0).trans rfl
    have H2 := Aside0.mk F2
    have H3 := Aside0.mk F3
    clear F1 F1' F2 F3
    go_wp2_with (go_at_call 88; refine (HC.out _ H3.out k0).mono ?_; rintro e w1 hbk; obtain ⟨B1, d1, B3, d3, rfl, hw, hb⟩ := hbk.low (w := w); have HW := Aside0.mk hw; have HB1 := Aside0.mk hb; have fb := blk_below H2.out hb; have e0 := blk_frozen fb 0; have e1 := blk_frozen fb 1; have e2 := blk_frozen fb 2; have e3 := blk_frozen fb 3; have b0 : w1.cell? ⟨w.heap.size + 2, 0, none⟩ = some (.int .i64 0) := (blk_cell fb 0).trans rfl; have b1 : w1.cell? ⟨w.heap.size + 2, 1, none⟩ = some (.slice none 0 0) := (blk_cell fb 1).trans rfl; have b2 : w1.cell? ⟨w.heap.size + 2, 2, none⟩ = some (.int .i64 0) := (blk_cell fb 2).trans rfl; have b3 : w1.cell? ⟨w.heap.size + 2, 3, none⟩ = some (.slice none 0 0) := (blk_cell fb 3).trans rfl; have FB := Aside0.mk fb; clear hw hb fb)
    refine bodyPost_ret (results_ct rfl _ _ (w.heap.size + 2) 38 #[.int .i64 y.q, .slice B1 y.ls.length d1, .int .i64 y.k, .slice B3 y.cs.length d3] (0, 0) _ rfl (put4_blk FB.out) Tryd.underlying38 rfl (by kernel_rfl)) rfl ?_
    exact ⟨_, rfl, put4_WrL (HW.out.lower (below_size H3.out)) FB.out, put4_below (below_step H3.out HB1.out) (by omega)⟩
  have t0 : (kind != 0) = true := bne_iff_ne.mpr k0_
  by_cases k1_ : kind = 1
  · have t1 : (kind != 1) = false := bne_eq_false_iff_eq.mpr k1_
    have HR := Aside0.mk (show listR kind x = turnR (listF kind) x by unfold listR; rw [if_pos (.inr k1_)])
    clear k0_ k1_
    rw [HR.out]
    generalize turnR (listF kind) x = r at HC ⊢
    obtain ⟨y, ey⟩ := r
    go_enter Tryd.func46, Tryd.ntmps46
    go_upto_region 1 with (fail)
    generalize ((w.alloc (.cells #[.int .i64 x.q, .slice A1 x.ls.length c1, .int .i64 x.k, .slice A3 x.cs.length c3] 38)).alloc (.cells #[.int .i64 kind] 3)).alloc (.cells #[.int .i64 0, .slice none 0 0, .int .i64 0, .slice none 0 0] 38) = W0 at F1 F1' F2 F3 ⊢
    have a0 : W0.cell? ⟨w.heap.size, 0, none⟩ = some (.int .i64 x.q) := (blk_cell F1 0).trans rfl
    have a1 : W0.cell? ⟨w.heap.size, 1, none⟩ = some (.slice A1 x.ls.length c1) := (blk_cell F1 1).trans rfl
    have a2 : W0.cell? ⟨w.heap.size, 2, none⟩ = some (.int .i64 x.k) := (blk_cell F1 2).trans rfl
    have a3 : W0.cell? ⟨w.heap.size, 3, none⟩ = some (.slice A3 x.cs.length c3) := (blk_cell F1 3).trans rfl
    have k0 : W0.cell? ⟨w.heap.size + 1, 0, none⟩ = some (.int .i64 kind) := (blk_cell F1' 0).trans rfl
    have H2 := Aside0.mk F2
    have H3 := Aside0.mk F3
    clear F1 F1' F2 F3
    go_wp2_with (go_at_call 88; refine (HC.out _ H3.out k0).mono ?_; rintro e w1 hbk; obtain ⟨B1, d1, B3, d3, rfl, hw, hb⟩ := hbk.low (w := w); have HW := Aside0.mk hw; have HB1 := Aside0.mk hb; have fb := blk_below H2.out hb; have e0 := blk_frozen fb 0; have e1 := blk_frozen fb 1; have e2 := blk_frozen fb 2; have e3 := blk_frozen fb 3; have b0 : w1.cell? ⟨w.heap.size + 2, 0, none⟩ = some (.int .i64 0) := (blk_cell fb 0).trans rfl; have b1 : w1.cell? ⟨w.heap.size + 2, 1, none⟩ = some (.slice none 0 0) := (blk_cell fb 1).trans rfl; have b2 : w1.cell? ⟨w.heap.size + 2, 2, none⟩ = some (.int .i64 0) := (blk_cell fb 2).trans rfl; have b3 : w1.cell? ⟨w.heap.size + 2, 3, none⟩ = some (.slice none 0 0) := (blk_cell fb 3).trans rfl; have FB := Aside0.mk fb; clear hw hb fb)
    refine bodyPost_ret (results_ct rfl _ _ (w.heap.size + 2) 38 #[.int .i64 y.q, .slice B1 y.ls.length d1, .int .i64 y.k, .slice B3 y.cs.length d3] (0, 0) _ rfl (put4_blk FB.out) Tryd.underlying38 rfl (by kernel_rfl)) rfl ?_
    exact ⟨_, rfl, put4_WrL (HW.out.lower (below_size H3.out)) FB.out, put4_below (below_step H3.out HB1.out) (by omega)⟩
  have t1 : (kind != 1) = true := bne_iff_ne.mpr k1_
  have HR := Aside0.mk (show listR kind x = (zeroLn, 1) by unfold listR; rw [if_neg (by omega)])
  clear k0_ k1_
  go_enter Tryd.func46, Tryd.ntmps46
  go_upto_region 1 with (fail)
  generalize ((w.alloc (.cells #[.int .i64 x.q, .slice A1 x.ls.length c1, .int .i64 x.k, .slice A3 x.cs.length c3] 38)).alloc (.cells #[.int .i64 kind] 3)).alloc (.cells #[.int .i64 0, .slice none 0 0, .int .i64 0, .slice none 0 0] 38) = W0 at F1 F1' F2 F3 ⊢
  have a0 : W0.cell? ⟨w.heap.size, 0, none⟩ = some (.int .i64 x.q) := (blk_cell F1 0).trans rfl
  have a1 : W0.cell? ⟨w.heap.size, 1, none⟩ = some (.slice A1 x.ls.length c1) := (blk_cell F1 1).trans rfl
  have a2 : W0.cell? ⟨w.heap.size, 2, none⟩ = some (.int .i64 x.k) := (blk_cell F1 2).trans rfl
  have a3 : W0.cell? ⟨w.heap.size, 3, none⟩ = some (.slice A3 x.cs.length c3) := (blk_cell F1 3).trans rfl
  have k0 : W0.cell? ⟨w.heap.size + 1, 0, none⟩ = some (.int .i64 kind) := (blk_cell F1' 0).trans rfl
  have H2 := Aside0.mk F2
  have H3 := Aside0.mk F3
  have e0 := blk_frozen F2 0
  have e1 := blk_frozen F2 1
  have e2 := blk_frozen F2 2
  have e3 := blk_frozen F2 3
  have b0 : W0.cell? ⟨w.heap.size + 2, 0, none⟩ = some (.int .i64 0) := (blk_cell F2 0).trans rfl
  have b1 : W0.cell? ⟨w.heap.size + 2, 1, none⟩ = some (.slice none 0 0) := (blk_cell F2 1).trans rfl
  have b2 : W0.cell? ⟨w.heap.size + 2, 2, none⟩ = some (.int .i64 0) := (blk_cell F2 2).trans rfl
  have b3 : W0.cell? ⟨w.heap.size + 2, 3, none⟩ = some (.slice none 0 0) := (blk_cell F2 3).trans rfl
  clear F1 F1' F2 F3 HC
  go_wp2
  refine bodyPost_ret (results_ct rfl _ _ (w.heap.size + 2) 38 #[.int .i64 0, .slice none 0 0, .int .i64 0, .slice none 0 0] (0, 0) _ rfl (put4_blk H2.out) Tryd.underlying38 rfl (by kernel_rfl)) rfl ?_
  exact ⟨_, by rw [HR.out]; rfl, by rw [HR.out]; exact WrL_zero _ _, put4_below H3.out (by omega)⟩
set_option maxRecDepth 100000 in
set_option maxHeartbeats 4000000 in
theorem format_calls_ (kind : Int) (x : Ln) (v : Value) (w : World) (hx : RdL w v x) (hz : Sz x) (hG : Gl_ w) :
    Calls Tryd.prog 48 #[v, .int .i64 kind] w fun e w' => Back_ w (formatR kind x) e w' := by
  have hu38 := Tryd.underlying38
  obtain ⟨_, _, rfl, ⟨A1, c1, rfl, h1, hc1⟩, ⟨A3, c3, rfl, h3, hc3⟩⟩ := hx
  have hX : RdL w (.agg #[.int .i64 x.q, .slice A1 x.ls.length c1, .int .i64 x.k, .slice A3 x.cs.length c3]) x := ⟨_, _, rfl, ⟨A1, c1, rfl, h1, hc1⟩, ⟨A3, c3, rfl, h3, hc3⟩⟩
  have HC := Aside0.mk (fun W (hW : Below w.heap.size w W) (hk : W.cell? ⟨w.heap.size + 1, 0, none⟩ = some (.int .i64 kind)) => turned_calls_ x _ W 94 #[.pointer (some ⟨w.heap.size + 1, 0, none⟩)] (formatF kind) (hX.below hW) hz (hG.below hW) (enters_of Tryd.func94 (by kernel_rfl) rfl) (format_turns_ W kind _ hk))
  obtain ⟨F1, F1', F2, F3⟩ := three_boxes_ w (.cells #[.int .i64 x.q, .slice A1 x.ls.length c1, .int .i64 x.k, .slice A3 x.cs.length c3] 38) (.cells #[.int .i64 kind] 3) (.cells #[.int .i64 0, .slice none 0 0, .int .i64 0, .slice none 0 0] 38)
  clear h1 h3 hc1 hc3 hz hG hX
  by_cases k0_ : kind < 0
  · have t0 : decide (kind < 0) = true := decide_eq_true k0_
    have HR := Aside0.mk (show formatR kind x = (zeroLn, 1) by unfold formatR; rw [if_neg (by omega)])
    clear k0_
    go_enter Tryd.func48, Tryd.ntmps48
    go_upto_region 1 with (fail)
    generalize ((w.alloc (.cells #[.int .i64 x.q, .slice A1 x.ls.length c1, .int .i64 x.k, .slice A3 x.cs.length c3] 38)).alloc (.cells #[.int .i64 kind] 3)).alloc (.cells #[.int .i64 0, .slice none 0 0, .int .i64 0, .slice none 0 0] 38) = W0 at F1 F1' F2 F3 ⊢
    have a0 : W0.cell? ⟨w.heap.size, 0, none⟩ = some (.int .i64 x.q) := (blk_cell F1 0).trans rfl
    have a1 : W0.cell? ⟨w.heap.size, 1, none⟩ = some (.slice A1 x.ls.length c1) := (blk_cell F1 1).trans rfl
    have a2 : W0.cell? ⟨w.heap.size, 2, none⟩ = some (.int .i64 x.k) := (blk_cell F1 2).trans rfl
    have a3 : W0.cell? ⟨w.heap.size, 3, none⟩ = some (.slice A3 x.cs.length c3) := (blk_cell F1 3).trans rfl
    have k0 : W0.cell? ⟨w.heap.size + 1, 0, none⟩ = some (.int .i64 kind) := (blk_cell F1' 0).trans rfl
    have H2 := Aside0.mk F2
    have H3 := Aside0.mk F3
    have e0 := blk_frozen F2 0
    have e1 := blk_frozen F2 1
    have e2 := blk_frozen F2 2
    have e3 := blk_frozen F2 3
    have b0 : W0.cell? ⟨w.heap.size + 2, 0, none⟩ = some (.int .i64 0) := (blk_cell F2 0).trans rfl
    have b1 : W0.cell? ⟨w.heap.size + 2, 1, none⟩ = some (.slice none 0 0) := (blk_cell F2 1).trans rfl
    have b2 : W0.cell? ⟨w.heap.size + 2, 2, none⟩ = some (.int .i64 0) := (blk_cell F2 2).trans rfl
    have b3 : W0.cell? ⟨w.heap.size + 2, 3, none⟩ = some (.slice none 0 0) := (blk_cell F2 3).trans rfl
    clear F1 F1' F2 F3 HC
    go_wp2
    refine bodyPost_ret (results_ct rfl _ _ (w.heap.size + 2) 38 #[.int .i64 0, .slice none 0 0, .int .i64 0, .slice none 0 0] (0, 0) _ rfl (put4_blk H2.out) Tryd.underlying38 rfl (by kernel_rfl)) rfl ?_
    exact ⟨_, by rw [HR.out]; rfl, by rw [HR.out]; exact WrL_zero _ _, put4_below H3.out (by omega)⟩
  have t0 : decide (kind < 0) = false := decide_eq_false k0_
  by_cases k1_ : 3 < kind
  · have t1 : decide (3 < kind) = true := decide_eq_true k1_
    have HR := Aside0.mk (show formatR kind x = (zeroLn, 1) by unfold formatR; rw [if_neg (by omega)])
    clear k0_ k1_
    go_enter Tryd.func48, Tryd.ntmps48
    go_upto_region 1 with (fail)
    generalize ((w.alloc (.cells #[.int .i64 x.q, .slice A1 x.ls.length c1, .int .i64 x.k, .slice A3 x.cs.length c3] 38)).alloc (.cells #[.int .i64 kind] 3)).alloc (.cells #[.int .i64 0, .slice none 0 0, .int .i64 0, .slice none 0 0] 38) = W0 at F1 F1' F2 F3 ⊢
    have a0 : W0.cell? ⟨w.heap.size, 0, none⟩ = some (.int .i64 x.q) := (blk_cell F1 0).trans rfl
    have a1 : W0.cell? ⟨w.heap.size, 1, none⟩ = some (.slice A1 x.ls.length c1) := (blk_cell F1 1).trans rfl
    have a2 : W0.cell? ⟨w.heap.size, 2, none⟩ = some (.int .i64 x.k) := (blk_cell F1 2).trans rfl
    have a3 : W0.cell? ⟨w.heap.size, 3, none⟩ = some (.slice A3 x.cs.length c3) := (blk_cell F1 3).trans rfl
    have k0 : W0.cell? ⟨w.heap.size + 1, 0, none⟩ = some (.int .i64 kind) := (blk_cell F1' 0).trans rfl
    have H2 := Aside0.mk F2
    have H3 := Aside0.mk F3
    have e0 := blk_frozen F2 0
    have e1 := blk_frozen F2 1
    have e2 := blk_frozen F2 2
    have e3 := blk_frozen F2 3
    have b0 : W0.cell? ⟨w.heap.size + 2, 0, none⟩ = some (.int .i64 0) := (blk_cell F2 0).trans rfl
    have b1 : W0.cell? ⟨w.heap.size + 2, 1, none⟩ = some (.slice none 0 0) := (blk_cell F2 1).trans rfl
    have b2 : W0.cell? ⟨w.heap.size + 2, 2, none⟩ = some (.int .i64 0) := (blk_cell F2 2).trans rfl
    have b3 : W0.cell? ⟨w.heap.size + 2, 3, none⟩ = some (.slice none 0 0) := (blk_cell F2 3).trans rfl
    clear F1 F1' F2 F3 HC
    go_wp2
    refine bodyPost_ret (results_ct rfl _ _ (w.heap.size + 2) 38 #[.int .i64 0, .slice none 0 0, .int .i64 0, .slice none 0 0] (0, 0) _ rfl (put4_blk H2.out) Tryd.underlying38 rfl (by kernel_rfl)) rfl ?_
    exact ⟨_, by rw [HR.out]; rfl, by rw [HR.out]; exact WrL_zero _ _, put4_below H3.out (by omega)⟩
  have t1 : decide (3 < kind) = false := decide_eq_false k1_
  have HR := Aside0.mk (show formatR kind x = turnR (formatF kind) x by unfold formatR; rw [if_pos (by omega)])
  clear k0_ k1_
  rw [HR.out]
  generalize turnR (formatF kind) x = r at HC ⊢
  obtain ⟨y, ey⟩ := r
  go_enter Tryd.func48, Tryd.ntmps48
  go_upto_region 1 with (fail)
  generalize ((w.alloc (.cells #[.int .i64 x.q, .slice A1 x.ls.length c1, .int .i64 x.k, .slice A3 x.cs.length c3] 38)).alloc (.cells #[.int .i64 kind] 3)).alloc (.cells #[.int .i64 0, .slice none 0 0, .int .i64 0, .slice none 0 0] 38) = W0 at F1 F1' F2 F3 ⊢
  have a0 : W0.cell? ⟨w.heap.size, 0, none⟩ = some (.int .i64 x.q) := (blk_cell F1 0).trans rfl
  have a1 : W0.cell? ⟨w.heap.size, 1, none⟩ = some (.slice A1 x.ls.length c1) := (blk_cell F1 1).trans rfl
  have a2 : W0.cell? ⟨w.heap.size, 2, none⟩ = some (.int .i64 x.k) := (blk_cell F1 2).trans rfl
  have a3 : W0.cell? ⟨w.heap.size, 3, none⟩ = some (.slice A3 x.cs.length c3) := (blk_cell F1 3).trans rfl
  have k0 : W0.cell? ⟨w.heap.size + 1, 0, none⟩ = some (.int .i64 kind) := (blk_cell F1' 0).trans rfl
  have H2 := Aside0.mk F2
  have H3 := Aside0.mk F3
  clear F1 F1' F2 F3
  go_wp2_with (go_at_call 88; refine (HC.out _ H3.out k0).mono ?_; rintro e w1 hbk; obtain ⟨B1, d1, B3, d3, rfl, hw, hb⟩ := hbk.low (w := w); have HW := Aside0.mk hw; have HB1 := Aside0.mk hb; have fb := blk_below H2.out hb; have e0 := blk_frozen fb 0; have e1 := blk_frozen fb 1; have e2 := blk_frozen fb 2; have e3 := blk_frozen fb 3; have b0 : w1.cell? ⟨w.heap.size + 2, 0, none⟩ = some (.int .i64 0) := (blk_cell fb 0).trans rfl; have b1 : w1.cell? ⟨w.heap.size + 2, 1, none⟩ = some (.slice none 0 0) := (blk_cell fb 1).trans rfl; have b2 : w1.cell? ⟨w.heap.size + 2, 2, none⟩ = some (.int .i64 0) := (blk_cell fb 2).trans rfl; have b3 : w1.cell? ⟨w.heap.size + 2, 3, none⟩ = some (.slice none 0 0) := (blk_cell fb 3).trans rfl; have FB := Aside0.mk fb; clear hw hb fb)
  refine bodyPost_ret (results_ct rfl _ _ (w.heap.size + 2) 38 #[.int .i64 y.q, .slice B1 y.ls.length d1, .int .i64 y.k, .slice B3 y.cs.length d3] (0, 0) _ rfl (put4_blk FB.out) Tryd.underlying38 rfl (by kernel_rfl)) rfl ?_
  exact ⟨_, rfl, put4_WrL (HW.out.lower (below_size H3.out)) FB.out, put4_below (below_step H3.out HB1.out) (by omega)⟩
end Go.Proofs.YtgdpknmffohhaaaDoor.Pl
