/- lines.turned, and what it is called for: a line indented, outdented, in a list, as a heading, freed. -/
import Derived.Test.YtgdpknmffohhaaaDoorLineList
namespace Go.Proofs.YtgdpknmffohhaaaDoor.Pl
open Go.RowKit Go.Lib Go.Proofs.YtgdpknmffohhaaaDoorW.PrintWords Go.Proofs.YtgdpknmffohhaaaDoorW.PrintLast Go.Proofs.YtgdpknmffohhaaaDoorW.PrintMore
set_option linter.unusedVariables false
def turnR (F : Ln → Bool × Ln) (x : Ln) : Ln × Int := if mayL x = true then (if (F x).1 = true then ((F x).2, 0) else (zeroLn, 7)) else (zeroLn, 1)
/-- a line and an error, handed back -/
def Back_ (w : World) (r : Ln × Int) (e : Ending) (w' : World) : Prop := ∃ v', e = .returned (.tuple #[v', .int .i64 r.2]) ∧ WrL w' w.heap.size v' r.1 ∧ Below w.heap.size w w'
theorem Wr.slice_ {α : Type} {d : Kd α} {e : Nat} {W : World} {base : Nat} {v : Value} {xs : List α} (h : Wr d e W base v xs) : ∃ A c, v = .slice A xs.length c := by
  obtain ⟨A, c, e, _⟩ := h
  exact ⟨A, c, e⟩
theorem Wr_put_ {α : Type} {d : Kd α} {e : Nat} {W : World} {base : Nat} {v : Value} {xs : List α} {g t : Nat} {cells : Array Value} (h : Wr d e W base v xs) (hb : W.heap[g]? = some (.cells cells t (0, 0))) (ht : e ≠ t) (hE : d.E = []) (i : Nat) (u : Value) (hK : ∀ (W W1 : World) x cs, d.K W x cs → d.K W1 x cs) : Wr d e (W.setCell ⟨g, i, none⟩ u) base v xs := by
  obtain ⟨A, c, e1, h1, h2, h3⟩ := h
  refine ⟨A, c, e1, ⟨h1.1, h1.2.1, fun hp => ?_⟩, h2, fun hp => ?_⟩
  · obtain ⟨ad, e2, h4⟩ := h1.2.2 hp
    obtain ⟨g', off, cells', e3, h5, h6⟩ := h3 hp
    have hne : g' ≠ g := fun e4 => by
      subst e4
      rw [hb] at h6
      injection h6 with h6
      injection h6 with _ h6
      exact ht h6.symm
    refine ⟨ad, e2, fun j p hj => ?_⟩
    obtain ⟨cs, h7, h8, h9⟩ := h4 j p hj
    refine ⟨cs, h7, hK _ _ _ _ h8, fun i' u' hu => ?_⟩
    have := h9 i' u' hu
    rw [e2] at e3
    injection e3 with e3
    subst e3
    exact (cell_far (p := ⟨g, i, none⟩) (by rw [add_block]; exact hne) u).trans this
  · obtain ⟨g', off, cells', e3, h5, h6⟩ := h3 hp
    have hne : g' ≠ g := fun e4 => by
      subst e4
      rw [hb] at h6
      injection h6 with h6
      injection h6 with _ h6
      exact ht h6.symm
    exact ⟨g', off, cells', e3, h5, blk_off_ h6 hne⟩
theorem WrI_put_ {W : World} {base : Nat} {v : Value} {xs : List Int} {g t : Nat} {cells : Array Value} (h : Wr (Kd.int .i64) 3 W base v xs) (hb : W.heap[g]? = some (.cells cells t (0, 0))) (ht : 3 ≠ t) (i : Nat) (u : Value) : Wr (Kd.int .i64) 3 (W.setCell ⟨g, i, none⟩ u) base v xs := Wr_put_ h hb ht rfl i u (fun _ _ _ _ h => h)
theorem WrC_put_ {W : World} {base : Nat} {v : Value} {xs : List S71} {g t : Nat} {cells : Array Value} (h : Wr k71 71 W base v xs) (hb : W.heap[g]? = some (.cells cells t (0, 0))) (ht : 71 ≠ t) (i : Nat) (u : Value) : Wr k71 71 (W.setCell ⟨g, i, none⟩ u) base v xs := Wr_put_ h hb ht rfl i u (fun _ _ _ _ h => h)
section
variable {W : World} {base : Nat} {v : Value} {g : Nat} {a b c d z0 z1 z2 z3 : Value} {t : Nat}
theorem put4_WrI {xs : List Int} (h : Wr (Kd.int .i64) 3 W base v xs) (hb : W.heap[g]? = some (.cells #[z0, z1, z2, z3] t (0, 0))) (ht : 3 ≠ t) : Wr (Kd.int .i64) 3 (put4_ W g a b c d) base v xs :=
  WrI_put_ (WrI_put_ (WrI_put_ (WrI_put_ h hb ht 0 a) (blk_put hb 0 a rfl) ht 1 b) (blk_put (blk_put hb 0 a rfl) 1 b rfl) ht 2 c) (blk_put (blk_put (blk_put hb 0 a rfl) 1 b rfl) 2 c rfl) ht 3 d
theorem put4_WrC {xs : List S71} (h : Wr k71 71 W base v xs) (hb : W.heap[g]? = some (.cells #[z0, z1, z2, z3] t (0, 0))) (ht : 71 ≠ t) : Wr k71 71 (put4_ W g a b c d) base v xs :=
  WrC_put_ (WrC_put_ (WrC_put_ (WrC_put_ h hb ht 0 a) (blk_put hb 0 a rfl) ht 1 b) (blk_put (blk_put hb 0 a rfl) 1 b rfl) ht 2 c) (blk_put (blk_put (blk_put hb 0 a rfl) 1 b rfl) 2 c rfl) ht 3 d
theorem put4_WrL {x : Ln} (h : WrL W base v x) (hb : W.heap[g]? = some (.cells #[z0, z1, z2, z3] 38 (0, 0))) : WrL (put4_ W g a b c d) base v x := by
  obtain ⟨v1, v3, e, h1, h3⟩ := h
  exact ⟨v1, v3, e, put4_WrI h1 hb (by decide), put4_WrC h3 hb (by decide)⟩
end
set_option maxRecDepth 100000 in
set_option maxHeartbeats 8000000 in
theorem turned_calls_ (x : Ln) (v : Value) (w : World) (g : Nat) (lb : Array Value) (F : Ln → Bool × Ln) (hx : RdL w v x) (hz : Sz x) (hG : Gl_ w) (eg : ∀ args w, (callFunc g args).run Tryd.prog w = .ok (.enter g args) w) (hT : Turns_ w g lb F) :
    Calls Tryd.prog 88 #[v, .func (.func g) #[] lb] w fun e w' => Back_ w (turnR F x) e w' := by
  have hu38 := Tryd.underlying38
  obtain ⟨_, _, rfl, ⟨A1, c1, rfl, h1, hc1⟩, ⟨A3, c3, rfl, h3, hc3⟩⟩ := hx
  have HX := Aside0.mk (show RdL w (.agg #[.int .i64 x.q, .slice A1 x.ls.length c1, .int .i64 x.k, .slice A3 x.cs.length c3]) x from ⟨_, _, rfl, ⟨A1, c1, rfl, h1, hc1⟩, ⟨A3, c3, rfl, h3, hc3⟩⟩)
  have HM := Aside0.mk (fun W (hW : Below w.heap.size w W) => may_calls_ x _ W (HX.out.below hW) hz (hG.below hW))
  have HO := Aside0.mk (fun W (hW : Below w.heap.size w W) => own_calls_ x _ W (HX.out.below hW) hz)
  have HT := Aside0.mk hT
  have HZ := Aside0.mk hz
  clear h1 h3 hc1 hc3 hz hG hT HX
  obtain ⟨F1, F2, F3⟩ := two_boxes_ w (.cells #[.int .i64 x.q, .slice A1 x.ls.length c1, .int .i64 x.k, .slice A3 x.cs.length c3] 38) (.cells #[.int .i64 0, .slice none 0 0, .int .i64 0, .slice none 0 0] 38)
  go_enter Tryd.func88, Tryd.ntmps88
  go_upto_region 1 with (fail)
  generalize (w.alloc (.cells #[.int .i64 x.q, .slice A1 x.ls.length c1, .int .i64 x.k, .slice A3 x.cs.length c3] 38)).alloc (.cells #[.int .i64 0, .slice none 0 0, .int .i64 0, .slice none 0 0] 38) = W0 at F1 F2 F3 ⊢
  have a0 : W0.cell? ⟨w.heap.size, 0, none⟩ = some (.int .i64 x.q) := (blk_cell F1 0).trans rfl
  have a1 : W0.cell? ⟨w.heap.size, 1, none⟩ = some (.slice A1 x.ls.length c1) := (blk_cell F1 1).trans rfl
  have a2 : W0.cell? ⟨w.heap.size, 2, none⟩ = some (.int .i64 x.k) := (blk_cell F1 2).trans rfl
  have a3 : W0.cell? ⟨w.heap.size, 3, none⟩ = some (.slice A3 x.cs.length c3) := (blk_cell F1 3).trans rfl
  have H1 := Aside0.mk F1
  have H2 := Aside0.mk F2
  have H3 := Aside0.mk F3
  clear F1 F2 F3
  cases hm : mayL x with
  | false =>
    rw [hm] at HM
    have HR := Aside0.mk (show turnR F x = (zeroLn, 1) by unfold turnR; rw [hm]; rfl)
    go_wp2_with (go_at_call 37; refine (HM.out _ H3.out).mono ?_; rintro e w1 ⟨rfl, hb⟩; have HB1 := Aside0.mk hb; have fb := blk_below H2.out hb; have e0 := blk_frozen fb 0; have e1 := blk_frozen fb 1; have e2 := blk_frozen fb 2; have e3 := blk_frozen fb 3; have b0 : w1.cell? ⟨w.heap.size + 1, 0, none⟩ = some (.int .i64 0) := (blk_cell fb 0).trans rfl; have b1 : w1.cell? ⟨w.heap.size + 1, 1, none⟩ = some (.slice none 0 0) := (blk_cell fb 1).trans rfl; have b2 : w1.cell? ⟨w.heap.size + 1, 2, none⟩ = some (.int .i64 0) := (blk_cell fb 2).trans rfl; have b3 : w1.cell? ⟨w.heap.size + 1, 3, none⟩ = some (.slice none 0 0) := (blk_cell fb 3).trans rfl; have FB := Aside0.mk fb; clear hb fb)
    refine bodyPost_ret (results_ct rfl _ _ (w.heap.size + 1) 38 #[.int .i64 0, .slice none 0 0, .int .i64 0, .slice none 0 0] (0, 0) _ rfl (put4_blk FB.out) Tryd.underlying38 rfl (by kernel_rfl)) rfl ?_
    exact ⟨_, by rw [HR.out]; rfl, by rw [HR.out]; exact WrL_zero _ _, put4_below (below_step H3.out HB1.out) (Nat.le_succ _)⟩
  | true =>
    rw [hm] at HM
    go_upto_region 4 with (first
      | (go_at_call 37; refine (HM.out _ H3.out).mono ?_; rintro e w1 ⟨rfl, hb⟩; have a0' : w1.cell? ⟨w.heap.size, 0, none⟩ = _ := (hb.cell (World.block_lt_of_cell? _ _ a0)).trans a0; have a1' : w1.cell? ⟨w.heap.size, 1, none⟩ = _ := (hb.cell (World.block_lt_of_cell? _ _ a1)).trans a1; have a2' : w1.cell? ⟨w.heap.size, 2, none⟩ = _ := (hb.cell (World.block_lt_of_cell? _ _ a2)).trans a2; have a3' : w1.cell? ⟨w.heap.size, 3, none⟩ = _ := (hb.cell (World.block_lt_of_cell? _ _ a3)).trans a3; have HB1 := Aside0.mk hb; clear hb)
      | (go_at_call 39; refine (HO.out _ (below_step H3.out HB1.out)).mono ?_; rintro e w2 ⟨u1, u3, rfl, ho1, ho3, hb⟩; obtain ⟨B1, d1, rfl⟩ := Kd.R_slice ho1; obtain ⟨B3, d3, rfl⟩ := Kd.R_slice ho3; have HO1 := Aside0.mk ho1; have HO3 := Aside0.mk ho3; have fb := blk_below (blk_below H1.out HB1.out) hb; have e0 := blk_frozen fb 0; have e1 := blk_frozen fb 1; have e2 := blk_frozen fb 2; have e3 := blk_frozen fb 3; have b0 : w2.cell? ⟨w.heap.size, 0, none⟩ = some (.int .i64 x.q) := (blk_cell fb 0).trans rfl; have b1 : w2.cell? ⟨w.heap.size, 1, none⟩ = some (.slice A1 x.ls.length c1) := (blk_cell fb 1).trans rfl; have b2 : w2.cell? ⟨w.heap.size, 2, none⟩ = some (.int .i64 x.k) := (blk_cell fb 2).trans rfl; have b3 : w2.cell? ⟨w.heap.size, 3, none⟩ = some (.slice A3 x.cs.length c3) := (blk_cell fb 3).trans rfl; have FB := Aside0.mk fb; have HB2 := Aside0.mk hb; clear ho1 ho3 hb fb))
    have P1 := put4_blk (a := .int .i64 x.q) (b := .slice B1 x.ls.length d1) (c := .int .i64 x.k) (d := .slice B3 x.cs.length d3) FB.out
    have P2 := put4_off (g := w.heap.size) (a := .int .i64 x.q) (b := .slice B1 x.ls.length d1) (c := .int .i64 x.k) (d := .slice B3 x.cs.length d3) (blk_below (blk_below H2.out HB1.out) HB2.out) (by omega)
    have PO1 := put4_R (a := .int .i64 x.q) (b := .slice B1 x.ls.length d1) (c := .int .i64 x.k) (d := .slice B3 x.cs.length d3) (Kd.R_lower HO1.out (below_size (below_step H3.out HB1.out))) FB.out (by decide)
    have PO3 := put4_R (a := .int .i64 x.q) (b := .slice B1 x.ls.length d1) (c := .int .i64 x.k) (d := .slice B3 x.cs.length d3) (Kd.R_lower HO3.out (below_size (below_step H3.out HB1.out))) FB.out (by decide)
    have PB := put4_below (a := .int .i64 x.q) (b := .slice B1 x.ls.length d1) (c := .int .i64 x.k) (d := .slice B3 x.cs.length d3) (below_step (below_step H3.out HB1.out) HB2.out) (Nat.le_refl _)
    unfold put4_ at P1 P2 PO1 PO3 PB
    generalize (((w2.setCell ⟨w.heap.size, 0, none⟩ (.int .i64 x.q)).setCell ⟨w.heap.size, 1, none⟩ (.slice B1 x.ls.length d1)).setCell ⟨w.heap.size, 2, none⟩ (.int .i64 x.k)).setCell ⟨w.heap.size, 3, none⟩ (.slice B3 x.cs.length d3) = W3 at P1 P2 PO1 PO3 PB ⊢
    have HC := Aside0.mk (HT.out x W3 w.heap.size _ _ hm HZ.out P1 PO1 PO3 (Nat.le_refl _) PB)
    have Q2 := Aside0.mk P2
    clear P1 P2 PO1 PO3 PB e0 e1 e2 e3 b0 b1 b2 b3 a0 a1 a2 a3 a0' a1' a2' a3' HO1 HO3 FB HB1 HB2 H1 H2 H3 HM HO HT
    generalize hF : F x = r at HC
    obtain ⟨r, y⟩ := r
    cases r with
    | false =>
      have HR := Aside0.mk (show turnR F x = (zeroLn, 7) by unfold turnR; rw [hm, hF]; rfl)
      clear hF
      go_wp2_with (go_at_fn g; refine HC.out.mono ?_; rintro e w4 ⟨u1, rfl, hbx, hw1, hw3, hb, hoth⟩; have fb := hoth (w.heap.size + 1) _ (by omega) Q2.out; have e0 := blk_frozen fb 0; have e1 := blk_frozen fb 1; have e2 := blk_frozen fb 2; have e3 := blk_frozen fb 3; have b0 : w4.cell? ⟨w.heap.size + 1, 0, none⟩ = some (.int .i64 0) := (blk_cell fb 0).trans rfl; have b1 : w4.cell? ⟨w.heap.size + 1, 1, none⟩ = some (.slice none 0 0) := (blk_cell fb 1).trans rfl; have b2 : w4.cell? ⟨w.heap.size + 1, 2, none⟩ = some (.int .i64 0) := (blk_cell fb 2).trans rfl; have b3 : w4.cell? ⟨w.heap.size + 1, 3, none⟩ = some (.slice none 0 0) := (blk_cell fb 3).trans rfl; have FB := Aside0.mk fb; have HB4 := Aside0.mk hb; clear hb fb hbx hw1 hw3 hoth)
      refine bodyPost_ret (results_ct rfl _ _ (w.heap.size + 1) 38 #[.int .i64 0, .slice none 0 0, .int .i64 0, .slice none 0 0] (0, 0) _ rfl (put4_blk FB.out) Tryd.underlying38 rfl (by kernel_rfl)) rfl ?_
      exact ⟨_, by rw [HR.out]; rfl, by rw [HR.out]; exact WrL_zero _ _, put4_below HB4.out (Nat.le_succ _)⟩
    | true =>
      have HR := Aside0.mk (show turnR F x = (y, 0) by unfold turnR; rw [hm, hF]; rfl)
      clear hF
      go_wp2_with (go_at_fn g; refine HC.out.mono ?_; rintro e w4 ⟨u1, rfl, hbx, hw1, hw3, hb, hoth⟩; obtain ⟨B1', d1', rfl⟩ := hw1.slice_; have HL := Aside0.mk (show WrL w4 w.heap.size (.agg #[.int .i64 y.q, .slice B1' y.ls.length d1', .int .i64 y.k, .slice B3 x.cs.length d3]) y from ⟨_, _, rfl, hw1, hw3⟩); have fb := hoth (w.heap.size + 1) _ (by omega) Q2.out; have a0 := hbx.c0; have a1 := hbx.c1; have a2 := hbx.c2; have a3 := hbx.c3; have e0 := blk_frozen fb 0; have e1 := blk_frozen fb 1; have e2 := blk_frozen fb 2; have e3 := blk_frozen fb 3; have b0 : w4.cell? ⟨w.heap.size + 1, 0, none⟩ = some (.int .i64 0) := (blk_cell fb 0).trans rfl; have b1 : w4.cell? ⟨w.heap.size + 1, 1, none⟩ = some (.slice none 0 0) := (blk_cell fb 1).trans rfl; have b2 : w4.cell? ⟨w.heap.size + 1, 2, none⟩ = some (.int .i64 0) := (blk_cell fb 2).trans rfl; have b3 : w4.cell? ⟨w.heap.size + 1, 3, none⟩ = some (.slice none 0 0) := (blk_cell fb 3).trans rfl; have FB := Aside0.mk fb; have HB4 := Aside0.mk hb; clear hb fb hbx hw1 hw3 hoth)
      refine bodyPost_ret (results_ct rfl _ _ (w.heap.size + 1) 38 #[.int .i64 y.q, .slice B1' y.ls.length d1', .int .i64 y.k, .slice B3 x.cs.length d3] (0, 0) _ rfl (put4_blk FB.out) Tryd.underlying38 rfl (by kernel_rfl)) rfl ?_
      exact ⟨_, by rw [HR.out]; rfl, by rw [HR.out]; exact put4_WrL HL.out FB.out, put4_below HB4.out (Nat.le_succ _)⟩
end Go.Proofs.YtgdpknmffohhaaaDoor.Pl
