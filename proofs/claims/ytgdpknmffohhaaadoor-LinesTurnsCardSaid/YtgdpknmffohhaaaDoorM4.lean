/- Printed texts, and given ones, of the seat's functions, in one file. -/
import Derived.Test.YtgdpknmffohhaaaDoorM3
import Derived.BigRegion
/- lines.Split: two lines out of one. -/
namespace Go.Proofs.YtgdpknmffohhaaaDoor.Pl
open Go.RowKit Go.Lib Go.Proofs.YtgdpknmffohhaaaDoorW.PrintWords Go.Proofs.YtgdpknmffohhaaaDoorW.PrintLast Go.Proofs.YtgdpknmffohhaaaDoorW.PrintMore
set_option linter.unusedVariables false
set_option linter.unusedSimpArgs false
/-- what the region that makes the two lines has made -/
structure SpS where
  B1 : Option Addr
  d1 : Nat
  B3 : Option Addr
  d3 : Nat
  D1 : Option Addr
  e1 : Nat
  p : Nat
  q : Nat
def Two_ (base : Nat) (x : Ln) (W : World) (s : SpS) : Prop :=
  Kd.R (Kd.int .i64) 3 W base (fun _ => True) (.slice s.B1 x.ls.length s.d1) x.ls ∧ Kd.R k71 71 W base (fun _ => True) (.slice s.B3 x.cs.length s.d3) x.cs ∧ Kd.R (Kd.int .i64) 3 W base (fun _ => True) (.slice s.D1 x.ls.length s.e1) x.ls ∧
    ∃ N, (∀ k, (Value.slice s.B1 x.ls.length s.d1).ownBlock = some k → k < N) ∧ ∀ k, (Value.slice s.D1 x.ls.length s.e1).ownBlock = some k → N ≤ k
def SpF (w : World) (x : Ln) (s : SpS) (W : World) : Prop :=
  Two_ w.heap.size x W s ∧ W.heap[s.p]? = some (.cells #[.int .i64 0, .slice none 0 0, .int .i64 0, .slice none 0 0] 38 (0, 0)) ∧ W.heap[s.q]? = some (.cells #[.int .i64 0, .slice none 0 0, .int .i64 0, .slice none 0 0] 38 (0, 0)) ∧ s.p ≠ s.q ∧ w.heap.size + 3 ≤ s.p ∧ w.heap.size + 3 ≤ s.q ∧ W.heap[w.heap.size + 1]? = some (.cells #[.int .i64 0, .slice none 0 0, .int .i64 0, .slice none 0 0] 38 (0, 0)) ∧ W.heap[w.heap.size + 2]? = some (.cells #[.int .i64 0, .slice none 0 0, .int .i64 0, .slice none 0 0] 38 (0, 0)) ∧ Below w.heap.size w W
def splitA (x : Ln) (n : Nat) : Ln := { x with cs := x.cs.take n }
def splitB (x : Ln) (n : Nat) : Ln := if n = x.cs.length then { x with k := 0, cs := [] } else { x with cs := x.cs.drop n }
def splitR (x : Ln) (at_ : Int) : Ln × Ln × Int := if mayL x = true ∧ 0 ≤ at_ ∧ at_ ≤ (x.cs.length : Int) then (splitA x at_.toNat, splitB x at_.toNat, 0) else (zeroLn, zeroLn, 1)
/-- two parts of memory are apart -/
def Apart_ (A : Option Addr) (n : Nat) (B : Option Addr) (m : Nat) : Prop := ∀ a b i j, A = some a → B = some b → i < n → j < m → a.add i ≠ b.add j
def SplitBack_ (w : World) (r : Ln × Ln × Int) (e : Ending) (w' : World) : Prop := ∃ A1 a1 A3 a3 B1 b1 B3 b3,
  e = .returned (.tuple #[.agg #[.int .i64 r.1.q, .slice A1 r.1.ls.length a1, .int .i64 r.1.k, .slice A3 r.1.cs.length a3], .agg #[.int .i64 r.2.1.q, .slice B1 r.2.1.ls.length b1, .int .i64 r.2.1.k, .slice B3 r.2.1.cs.length b3], .int .i64 r.2.2]) ∧
    WrL w' w.heap.size (.agg #[.int .i64 r.1.q, .slice A1 r.1.ls.length a1, .int .i64 r.1.k, .slice A3 r.1.cs.length a3]) r.1 ∧ WrL w' w.heap.size (.agg #[.int .i64 r.2.1.q, .slice B1 r.2.1.ls.length b1, .int .i64 r.2.1.k, .slice B3 r.2.1.cs.length b3]) r.2.1 ∧
    Apart_ A1 r.1.ls.length B1 r.2.1.ls.length ∧ Apart_ A3 (r.1.cs.length * 3) B3 (r.2.1.cs.length * 3) ∧ Below w.heap.size w w'
theorem zero_back_ {w W : World} (h : Below w.heap.size w W) : SplitBack_ w (zeroLn, zeroLn, 1) (.returned (.tuple #[.agg #[.int .i64 0, .slice none 0 0, .int .i64 0, .slice none 0 0], .agg #[.int .i64 0, .slice none 0 0, .int .i64 0, .slice none 0 0], .int .i64 1])) W :=
  ⟨none, 0, none, 0, none, 0, none, 0, rfl, WrL_zero _ _, WrL_zero _ _, (by intro a b i j h; cases h), (by intro a b i j h; cases h), h⟩
theorem Wr_take_ {W : World} {base c n : Nat} {A : Option Addr} {xs : List S71} (h : Kd.R k71 71 W base (fun _ => True) (.slice A xs.length c) xs) (hn : n ≤ xs.length) : Wr k71 71 W base (.slice A n n) (xs.take n) := by
  obtain ⟨_, h1, h2⟩ := Kd.R_reads' h
  have hl : (xs.take n).length = n := by rw [List.length_take]; omega
  refine ⟨A, n, by rw [hl], Kd.C_take h2 hn, by omega, fun hp => ?_⟩
  obtain ⟨g, cap, e1, h4, h5, cells, h6⟩ := Kd.R_form h (by omega)
  injection e1 with e2
  exact ⟨g, 0, cells, e2, h4, h6⟩
theorem Wr_drop_ {W : World} {base c n g : Nat} {xs : List S71} (h : Kd.R k71 71 W base (fun _ => True) (.slice (some ⟨g, 0, none⟩) xs.length c) xs) (hn : n < xs.length) : Wr k71 71 W base (.slice (some ⟨g, n * 3, none⟩) (xs.length - n) (c - n)) (xs.drop n) := by
  obtain ⟨_, h1, h2⟩ := Kd.R_reads' h
  have hl : (xs.drop n).length = xs.length - n := by rw [List.length_drop]
  have h3 := Kd.C_drop (m := n) h2 (by omega) h1
  rw [if_neg (by omega)] at h3
  refine ⟨some ⟨g, n * 3, none⟩, c - n, by rw [hl], ?_, by omega, fun hp => ?_⟩
  · have e : (Option.map (fun x : Addr => x.add (n * k71.sz)) (some (⟨g, 0, none⟩ : Addr))) = some ⟨g, n * 3, none⟩ := by
      show some ((⟨g, 0, none⟩ : Addr).add (n * 3)) = _
      rw [add_plain]
    rw [e] at h3
    exact h3
  · obtain ⟨g', cap, e1, h4, h5, cells, h6⟩ := Kd.R_form h (by omega)
    injection e1 with e2
    injection e2 with e2
    injection e2 with e2
    subst e2
    exact ⟨g, n * 3, cells, rfl, h4, h6⟩
theorem apart_blocks_ {A B : Option Addr} {n1 c1 n2 c2 N n m : Nat} (hA : ∀ k, (Value.slice A n1 c1).ownBlock = some k → k < N) (hB : ∀ k, (Value.slice B n2 c2).ownBlock = some k → N ≤ k) : Apart_ A n B m := by
  intro a b i j ea eb _ _ e
  subst ea
  subst eb
  have h1 := hA a.block rfl
  have h2 := hB b.block rfl
  have h3 := congrArg Addr.block e
  rw [add_block, add_block] at h3
  omega
def Sp2_ (w : World) (x : Ln) (s : SpS) (p3 q2 q3 : Value) (W : World) : Prop :=
  W.heap[s.p]? = some (.cells #[.int .i64 x.q, .slice s.B1 x.ls.length s.d1, .int .i64 x.k, p3] 38 (0, 0)) ∧ W.heap[s.q]? = some (.cells #[.int .i64 x.q, .slice s.D1 x.ls.length s.e1, q2, q3] 38 (0, 0)) ∧
    W.heap[w.heap.size + 1]? = some (.cells #[.int .i64 0, .slice none 0 0, .int .i64 0, .slice none 0 0] 38 (0, 0)) ∧ W.heap[w.heap.size + 2]? = some (.cells #[.int .i64 0, .slice none 0 0, .int .i64 0, .slice none 0 0] 38 (0, 0)) ∧ Two_ w.heap.size x W s ∧ Below w.heap.size w W
theorem Sp2_.move {w : World} {x : Ln} {s : SpS} {p3 q2 q3 : Value} {W : World} (h : Sp2_ w x s p3 q2 q3 W) (hpq : s.p ≠ s.q) (hp : w.heap.size + 3 ≤ s.p) (hq : w.heap.size + 3 ≤ s.q) (u : Value) :
    Sp2_ w x s u q2 q3 (W.setCell ⟨s.p, 3, none⟩ u) ∧ Sp2_ w x s p3 q2 u (W.setCell ⟨s.q, 3, none⟩ u) ∧ Sp2_ w x s p3 u q3 (W.setCell ⟨s.q, 2, none⟩ u) := by
  obtain ⟨h1, h2, h3, h4, ⟨h5, h6, h7, h8⟩, h9⟩ := h
  refine ⟨⟨blk_put h1 3 _ rfl, blk_off_ h2 (Ne.symm hpq), blk_off_ h3 (by omega), blk_off_ h4 (by omega), ⟨R_put_ h5 h1 (by decide) 3 u, R_put_ h6 h1 (by decide) 3 u, R_put_ h7 h1 (by decide) 3 u, h8⟩, below_set h9 (by omega)⟩,
    ⟨blk_off_ h1 hpq, blk_put h2 3 _ rfl, blk_off_ h3 (by omega), blk_off_ h4 (by omega), ⟨R_put_ h5 h2 (by decide) 3 u, R_put_ h6 h2 (by decide) 3 u, R_put_ h7 h2 (by decide) 3 u, h8⟩, below_set h9 (by omega)⟩,
    ⟨blk_off_ h1 hpq, blk_put h2 2 _ rfl, blk_off_ h3 (by omega), blk_off_ h4 (by omega), ⟨R_put_ h5 h2 (by decide) 2 u, R_put_ h6 h2 (by decide) 2 u, R_put_ h7 h2 (by decide) 2 u, h8⟩, below_set h9 (by omega)⟩⟩
theorem split_end_ {w W : World} {x : Ln} {n d1 a3 e1 mb b3 : Nat} {B1 A3 D1 B3 : Option Addr} {kb : Int} (hn : n ≤ x.cs.length) (hq : (splitB x n).q = x.q ∧ (splitB x n).ls = x.ls) (hk : (splitB x n).k = kb) (hm : (splitB x n).cs.length = mb)
    (wa1 : Wr (Kd.int .i64) 3 W w.heap.size (.slice B1 x.ls.length d1) x.ls) (wa3 : Wr k71 71 W w.heap.size (.slice A3 n a3) (x.cs.take n)) (wb1 : Wr (Kd.int .i64) 3 W w.heap.size (.slice D1 x.ls.length e1) x.ls) (wb3 : Wr k71 71 W w.heap.size (.slice B3 mb b3) (splitB x n).cs)
    (a1 : Apart_ B1 x.ls.length D1 x.ls.length) (a2 : Apart_ A3 (n * 3) B3 (mb * 3)) (hB : Below w.heap.size w W) :
    SplitBack_ w (splitA x n, splitB x n, 0) (.returned (.tuple #[.agg #[.int .i64 x.q, .slice B1 x.ls.length d1, .int .i64 x.k, .slice A3 n a3], .agg #[.int .i64 x.q, .slice D1 x.ls.length e1, .int .i64 kb, .slice B3 mb b3], .int .i64 0])) W := by
  have la : (splitA x n).cs.length = n := by show (x.cs.take n).length = n; rw [List.length_take]; omega
  refine ⟨B1, d1, A3, a3, D1, e1, B3, b3, ?_, ⟨_, _, rfl, wa1, ?_⟩, ⟨_, _, rfl, ?_, ?_⟩, ?_, ?_, hB⟩
  · dsimp only
    rw [la, hm, hk, hq.1, hq.2]
    rfl
  · dsimp only
    rw [la]
    exact wa3
  · dsimp only
    rw [hq.2]
    exact wb1
  · dsimp only
    rw [hm]
    exact wb3
  · dsimp only
    rw [hq.2]
    exact a1
  · dsimp only
    rw [la, hm]
    exact a2
set_option maxRecDepth 100000 in
set_option maxHeartbeats 20000000 in
theorem split_calls_ (x : Ln) (at_ : Int) (v : Value) (w : World) (hx : RdL w v x) (hz : Sz x) (hG : Gl_ w) :
    Calls Tryd.prog 27 #[v, .int .i64 at_] w fun e w' => SplitBack_ w (splitR x at_) e w' := by
  have hu38 := Tryd.underlying38
  obtain ⟨_, _, rfl, ⟨A1, c1, rfl, h1, hc1⟩, ⟨A3, c3, rfl, h3, hc3⟩⟩ := hx
  have hX : RdL w (.agg #[.int .i64 x.q, .slice A1 x.ls.length c1, .int .i64 x.k, .slice A3 x.cs.length c3]) x := ⟨_, _, rfl, ⟨A1, c1, rfl, h1, hc1⟩, ⟨A3, c3, rfl, h3, hc3⟩⟩
  have HM := Aside0.mk (fun W (hW : Below w.heap.size w W) => may_calls_ x _ W (hX.below hW) hz (hG.below hW))
  have HO := Aside0.mk (fun W (hW : Below w.heap.size w W) => own_calls_ x _ W (hX.below hW) hz)
  have HF := Aside0.mk (fun W (hW : Below w.heap.size w W) => frame_calls_ x _ W (hX.below hW) hz)
  obtain ⟨F1, F1', F2, F3⟩ := three_boxes_ w (.cells #[.int .i64 x.q, .slice A1 x.ls.length c1, .int .i64 x.k, .slice A3 x.cs.length c3] 38) (.cells #[.int .i64 0, .slice none 0 0, .int .i64 0, .slice none 0 0] 38) (.cells #[.int .i64 0, .slice none 0 0, .int .i64 0, .slice none 0 0] 38)
  have HLC := Aside0.mk (show x.cs.length ≤ 100000 from hz.2.1)
  clear h1 h3 hc1 hc3 hz hG hX
  go_enter Tryd.func27, Tryd.ntmps27
  go_upto_region 1 with (fail)
  generalize ((w.alloc (.cells #[.int .i64 x.q, .slice A1 x.ls.length c1, .int .i64 x.k, .slice A3 x.cs.length c3] 38)).alloc (.cells #[.int .i64 0, .slice none 0 0, .int .i64 0, .slice none 0 0] 38)).alloc (.cells #[.int .i64 0, .slice none 0 0, .int .i64 0, .slice none 0 0] 38) = W0 at F1 F1' F2 F3 ⊢
  have a0 : W0.cell? ⟨w.heap.size, 0, none⟩ = some (.int .i64 x.q) := (blk_cell F1 0).trans rfl
  have a1 : W0.cell? ⟨w.heap.size, 1, none⟩ = some (.slice A1 x.ls.length c1) := (blk_cell F1 1).trans rfl
  have a2 : W0.cell? ⟨w.heap.size, 2, none⟩ = some (.int .i64 x.k) := (blk_cell F1 2).trans rfl
  have a3 : W0.cell? ⟨w.heap.size, 3, none⟩ = some (.slice A3 x.cs.length c3) := (blk_cell F1 3).trans rfl
  have H0 := Aside0.mk F1
  have H1 := Aside0.mk F1'
  have H2 := Aside0.mk F2
  have H3 := Aside0.mk F3
  clear F1 F1' F2 F3
  cases hm : mayL x with
  | false =>
    rw [hm] at HM
    have HR := Aside0.mk (show splitR x at_ = (zeroLn, zeroLn, 1) by unfold splitR; rw [hm]; simp)
    go_wp2_with (go_at_call 37; refine (HM.out _ H3.out).mono ?_; rintro e w1 ⟨rfl, hb⟩; have HB1 := Aside0.mk hb; have fb := blk_below H1.out hb; have b0 : w1.cell? ⟨w.heap.size + 1, 0, none⟩ = some (.int .i64 0) := (blk_cell fb 0).trans rfl; have be0 := blk_frozen fb 0; have b1 : w1.cell? ⟨w.heap.size + 1, 1, none⟩ = some (.slice none 0 0) := (blk_cell fb 1).trans rfl; have be1 := blk_frozen fb 1; have b2 : w1.cell? ⟨w.heap.size + 1, 2, none⟩ = some (.int .i64 0) := (blk_cell fb 2).trans rfl; have be2 := blk_frozen fb 2; have b3 : w1.cell? ⟨w.heap.size + 1, 3, none⟩ = some (.slice none 0 0) := (blk_cell fb 3).trans rfl; have be3 := blk_frozen fb 3; have fc := blk_below H2.out hb; have m0 : w1.cell? ⟨w.heap.size + 2, 0, none⟩ = some (.int .i64 0) := (blk_cell fc 0).trans rfl; have me0 := blk_frozen fc 0; have m1 : w1.cell? ⟨w.heap.size + 2, 1, none⟩ = some (.slice none 0 0) := (blk_cell fc 1).trans rfl; have me1 := blk_frozen fc 1; have m2 : w1.cell? ⟨w.heap.size + 2, 2, none⟩ = some (.int .i64 0) := (blk_cell fc 2).trans rfl; have me2 := blk_frozen fc 2; have m3 : w1.cell? ⟨w.heap.size + 2, 3, none⟩ = some (.slice none 0 0) := (blk_cell fc 3).trans rfl; have me3 := blk_frozen fc 3; have g3 : w1.cell? ⟨w.heap.size, 3, none⟩ = some (.slice A3 x.cs.length c3) := (hb.cell (World.block_lt_of_cell? _ _ a3)).trans a3; have FB := Aside0.mk fb; have FC := Aside0.mk fc; clear hb fb fc)
    refine bodyPost_ret (results_list (rs := [.cell 4 38, .cell 5 38, .tmp 6]) rfl (by simp) (.cell (w.heap.size + 1) 38 #[.int .i64 0, .slice none 0 0, .int .i64 0, .slice none 0 0] (0, 0) _ rfl (put4_off (put4_blk FB.out) (by omega)) Tryd.underlying38 rfl (by kernel_rfl) (.cell (w.heap.size + 2) 38 #[.int .i64 0, .slice none 0 0, .int .i64 0, .slice none 0 0] (0, 0) _ rfl (put4_blk (put4_off FC.out (by omega))) Tryd.underlying38 rfl (by kernel_rfl) (.tmp .nil)))) rfl ?_
    rw [HR.out]
    exact zero_back_ (put4_below (put4_below (below_step H3.out HB1.out) (by omega)) (by omega))
  | true =>
    rw [hm] at HM
    by_cases k0_ : at_ < 0
    · have t0 : decide (at_ < 0) = true := decide_eq_true k0_
      have HR := Aside0.mk (show splitR x at_ = (zeroLn, zeroLn, 1) by unfold splitR; rw [if_neg (by omega)])
      clear k0_
      go_wp2_with (go_at_call 37; refine (HM.out _ H3.out).mono ?_; rintro e w1 ⟨rfl, hb⟩; have HB1 := Aside0.mk hb; have fb := blk_below H1.out hb; have b0 : w1.cell? ⟨w.heap.size + 1, 0, none⟩ = some (.int .i64 0) := (blk_cell fb 0).trans rfl; have be0 := blk_frozen fb 0; have b1 : w1.cell? ⟨w.heap.size + 1, 1, none⟩ = some (.slice none 0 0) := (blk_cell fb 1).trans rfl; have be1 := blk_frozen fb 1; have b2 : w1.cell? ⟨w.heap.size + 1, 2, none⟩ = some (.int .i64 0) := (blk_cell fb 2).trans rfl; have be2 := blk_frozen fb 2; have b3 : w1.cell? ⟨w.heap.size + 1, 3, none⟩ = some (.slice none 0 0) := (blk_cell fb 3).trans rfl; have be3 := blk_frozen fb 3; have fc := blk_below H2.out hb; have m0 : w1.cell? ⟨w.heap.size + 2, 0, none⟩ = some (.int .i64 0) := (blk_cell fc 0).trans rfl; have me0 := blk_frozen fc 0; have m1 : w1.cell? ⟨w.heap.size + 2, 1, none⟩ = some (.slice none 0 0) := (blk_cell fc 1).trans rfl; have me1 := blk_frozen fc 1; have m2 : w1.cell? ⟨w.heap.size + 2, 2, none⟩ = some (.int .i64 0) := (blk_cell fc 2).trans rfl; have me2 := blk_frozen fc 2; have m3 : w1.cell? ⟨w.heap.size + 2, 3, none⟩ = some (.slice none 0 0) := (blk_cell fc 3).trans rfl; have me3 := blk_frozen fc 3; have g3 : w1.cell? ⟨w.heap.size, 3, none⟩ = some (.slice A3 x.cs.length c3) := (hb.cell (World.block_lt_of_cell? _ _ a3)).trans a3; have FB := Aside0.mk fb; have FC := Aside0.mk fc; clear hb fb fc)
      refine bodyPost_ret (results_list (rs := [.cell 4 38, .cell 5 38, .tmp 6]) rfl (by simp) (.cell (w.heap.size + 1) 38 #[.int .i64 0, .slice none 0 0, .int .i64 0, .slice none 0 0] (0, 0) _ rfl (put4_off (put4_blk FB.out) (by omega)) Tryd.underlying38 rfl (by kernel_rfl) (.cell (w.heap.size + 2) 38 #[.int .i64 0, .slice none 0 0, .int .i64 0, .slice none 0 0] (0, 0) _ rfl (put4_blk (put4_off FC.out (by omega))) Tryd.underlying38 rfl (by kernel_rfl) (.tmp .nil)))) rfl ?_
      rw [HR.out]
      exact zero_back_ (put4_below (put4_below (below_step H3.out HB1.out) (by omega)) (by omega))
    have t0 : decide (at_ < 0) = false := decide_eq_false k0_
    by_cases k1_ : (x.cs.length : Int) < at_
    · have t1 : decide ((x.cs.length : Int) < at_) = true := decide_eq_true k1_
      have HR := Aside0.mk (show splitR x at_ = (zeroLn, zeroLn, 1) by unfold splitR; rw [if_neg (by omega)])
      clear k0_ k1_
      go_wp2_with (go_at_call 37; refine (HM.out _ H3.out).mono ?_; rintro e w1 ⟨rfl, hb⟩; have HB1 := Aside0.mk hb; have fb := blk_below H1.out hb; have b0 : w1.cell? ⟨w.heap.size + 1, 0, none⟩ = some (.int .i64 0) := (blk_cell fb 0).trans rfl; have be0 := blk_frozen fb 0; have b1 : w1.cell? ⟨w.heap.size + 1, 1, none⟩ = some (.slice none 0 0) := (blk_cell fb 1).trans rfl; have be1 := blk_frozen fb 1; have b2 : w1.cell? ⟨w.heap.size + 1, 2, none⟩ = some (.int .i64 0) := (blk_cell fb 2).trans rfl; have be2 := blk_frozen fb 2; have b3 : w1.cell? ⟨w.heap.size + 1, 3, none⟩ = some (.slice none 0 0) := (blk_cell fb 3).trans rfl; have be3 := blk_frozen fb 3; have fc := blk_below H2.out hb; have m0 : w1.cell? ⟨w.heap.size + 2, 0, none⟩ = some (.int .i64 0) := (blk_cell fc 0).trans rfl; have me0 := blk_frozen fc 0; have m1 : w1.cell? ⟨w.heap.size + 2, 1, none⟩ = some (.slice none 0 0) := (blk_cell fc 1).trans rfl; have me1 := blk_frozen fc 1; have m2 : w1.cell? ⟨w.heap.size + 2, 2, none⟩ = some (.int .i64 0) := (blk_cell fc 2).trans rfl; have me2 := blk_frozen fc 2; have m3 : w1.cell? ⟨w.heap.size + 2, 3, none⟩ = some (.slice none 0 0) := (blk_cell fc 3).trans rfl; have me3 := blk_frozen fc 3; have g3 : w1.cell? ⟨w.heap.size, 3, none⟩ = some (.slice A3 x.cs.length c3) := (hb.cell (World.block_lt_of_cell? _ _ a3)).trans a3; have FB := Aside0.mk fb; have FC := Aside0.mk fc; clear hb fb fc)
      refine bodyPost_ret (results_list (rs := [.cell 4 38, .cell 5 38, .tmp 6]) rfl (by simp) (.cell (w.heap.size + 1) 38 #[.int .i64 0, .slice none 0 0, .int .i64 0, .slice none 0 0] (0, 0) _ rfl (put4_off (put4_blk FB.out) (by omega)) Tryd.underlying38 rfl (by kernel_rfl) (.cell (w.heap.size + 2) 38 #[.int .i64 0, .slice none 0 0, .int .i64 0, .slice none 0 0] (0, 0) _ rfl (put4_blk (put4_off FC.out (by omega))) Tryd.underlying38 rfl (by kernel_rfl) (.tmp .nil)))) rfl ?_
      rw [HR.out]
      exact zero_back_ (put4_below (put4_below (below_step H3.out HB1.out) (by omega)) (by omega))
    have t1 : decide ((x.cs.length : Int) < at_) = false := decide_eq_false k1_
    obtain ⟨n, rfl⟩ := Int.eq_ofNat_of_zero_le (show 0 ≤ at_ by omega)
    have HR := Aside0.mk (show splitR x (n : Int) = (splitA x n, splitB x n, 0) by unfold splitR; rw [if_pos ⟨hm, by omega, by omega⟩, Int.toNat_natCast])
    have hnl : n ≤ x.cs.length := by omega
    have t2 : decide (x.cs.length < n) = false := decide_eq_false (by omega)
    clear k0_ k1_
    go_upto_region 3 with (go_at_call 37; refine (HM.out _ H3.out).mono ?_; rintro e w1 ⟨rfl, hb⟩; have HB1 := Aside0.mk hb; have fb := blk_below H1.out hb; have b0 : w1.cell? ⟨w.heap.size + 1, 0, none⟩ = some (.int .i64 0) := (blk_cell fb 0).trans rfl; have be0 := blk_frozen fb 0; have b1 : w1.cell? ⟨w.heap.size + 1, 1, none⟩ = some (.slice none 0 0) := (blk_cell fb 1).trans rfl; have be1 := blk_frozen fb 1; have b2 : w1.cell? ⟨w.heap.size + 1, 2, none⟩ = some (.int .i64 0) := (blk_cell fb 2).trans rfl; have be2 := blk_frozen fb 2; have b3 : w1.cell? ⟨w.heap.size + 1, 3, none⟩ = some (.slice none 0 0) := (blk_cell fb 3).trans rfl; have be3 := blk_frozen fb 3; have fc := blk_below H2.out hb; have m0 : w1.cell? ⟨w.heap.size + 2, 0, none⟩ = some (.int .i64 0) := (blk_cell fc 0).trans rfl; have me0 := blk_frozen fc 0; have m1 : w1.cell? ⟨w.heap.size + 2, 1, none⟩ = some (.slice none 0 0) := (blk_cell fc 1).trans rfl; have me1 := blk_frozen fc 1; have m2 : w1.cell? ⟨w.heap.size + 2, 2, none⟩ = some (.int .i64 0) := (blk_cell fc 2).trans rfl; have me2 := blk_frozen fc 2; have m3 : w1.cell? ⟨w.heap.size + 2, 3, none⟩ = some (.slice none 0 0) := (blk_cell fc 3).trans rfl; have me3 := blk_frozen fc 3; have g3 : w1.cell? ⟨w.heap.size, 3, none⟩ = some (.slice A3 x.cs.length c3) := (hb.cell (World.block_lt_of_cell? _ _ a3)).trans a3; have FB := Aside0.mk fb; have FC := Aside0.mk fc; clear hb fb fc)
    have K0 := Aside0.mk (show w1.drew.heap[w.heap.size]? = some (.cells #[.int .i64 x.q, .slice A1 x.ls.length c1, .int .i64 x.k, .slice A3 x.cs.length c3] 38 (0, 0)) from (blk_below H0.out HB1.out : w1.heap[w.heap.size]? = some (.cells #[.int .i64 x.q, .slice A1 x.ls.length c1, .int .i64 x.k, .slice A3 x.cs.length c3] 38 (0, 0))))
    have K1 := Aside0.mk (show w1.drew.heap[w.heap.size + 1]? = some (.cells #[.int .i64 0, .slice none 0 0, .int .i64 0, .slice none 0 0] 38 (0, 0)) from FB.out)
    have K2 := Aside0.mk (show w1.drew.heap[w.heap.size + 2]? = some (.cells #[.int .i64 0, .slice none 0 0, .int .i64 0, .slice none 0 0] 38 (0, 0)) from FC.out)
    have KB := Aside0.mk (below_drew1 (below_step H3.out HB1.out))
    clear H0 H1 H2 H3 HB1 FB FC HM a0 a1 a2 a3 g3 b0 be0 b1 be1 b2 be2 b3 be3 m0 me0 m1 me1 m2 me2 m3 me3
    refine start_ (n := 8) (S := fun W' => W'.cell? ⟨w.heap.size, 0, none⟩ = some (.int .i64 x.q) ∧ W'.cell? ⟨w.heap.size, 1, none⟩ = some (.slice A1 x.ls.length c1) ∧ W'.cell? ⟨w.heap.size, 2, none⟩ = some (.int .i64 x.k) ∧ W'.cell? ⟨w.heap.size, 3, none⟩ = some (.slice A3 x.cs.length c3)) (ds := [6, 7]) #[false, false, false, false, false, false, false, false] (by kernel_rfl) rfl rfl ⟨(blk_cell K0.out 0).trans rfl, (blk_cell K0.out 1).trans rfl, (blk_cell K0.out 2).trans rfl, (blk_cell K0.out 3).trans rfl⟩ (fun hHeld => ?_)
    generalize w1.drew = w10 at K0 K1 K2 KB hHeld ⊢
    refine take_ (i := 0) (N := some 25) (v := ?_) (a' := ?_) #[true, false, false, false, false, false, false, false] rfl rfl (by kernel_rfl) (fun _ _ _ h => h) (Or.inl ⟨by rfl, ?_⟩) hHeld ?_ ?_
    rotate_left
    · rintro w' ⟨s0, s1, s2, s3⟩
      go_simp
      with_reducible rfl
    rotate_left
    · simp only [Act.put, List.setIfInBounds_toArray, List.set_cons_zero, List.set_cons_succ]
      rfl
    refine take_ (i := 2) (N := some 27) (v := ?_) (a' := ?_) #[true, false, true, false, false, false, false, false] rfl rfl (by kernel_rfl) (fun _ _ _ h => h) (Or.inl ⟨by rfl, ?_⟩) hHeld ?_ ?_
    rotate_left
    · rintro w' ⟨s0, s1, s2, s3⟩
      go_simp
      with_reducible rfl
    rotate_left
    · simp only [Act.put, List.setIfInBounds_toArray, List.set_cons_zero, List.set_cons_succ]
      rfl
    refine join_ (σ := SpS) 2 #[true, true, true, true, true, true, false, false] (fun s => [(26, .agg #[.int .i64 x.q, .slice s.B1 x.ls.length s.d1, .int .i64 x.k, .slice s.B3 x.cs.length s.d3]), (28, .agg #[.int .i64 x.q, .slice s.D1 x.ls.length s.e1, .int .i64 x.k, .slice none 0 0]), (7, .pointer (some ⟨s.p, 0, none⟩)), (8, .pointer (some ⟨s.q, 0, none⟩))]) (fun s W => SpF w x s W) ?_ (fun hcont => ?_)
    rotate_left
    · clear hHeld
      refine three_ (i := 1) (Ni := some 26) (j := 4) (Nj := some 7) (k := 5) (Nk := some 8) #[true, true, true, false, false, false, false, false] #[true, false, true, false, true, false, false, false] #[true, false, true, false, false, true, false, false] rfl rfl rfl rfl rfl rfl (by kernel_rfl) (by decide) (by decide) (by decide) (fun K hK => ?_) (fun K hK => ?_) (fun K hK => ?_)
      · refine goes_ Tryd.func39 (by kernel_rfl) rfl #[.agg #[.int .i64 x.q, .slice A1 x.ls.length c1, .int .i64 x.k, .slice A3 x.cs.length c3]] (by rfl) rfl rfl (by (try simp only [List.map_toArray, List.map_cons, List.map_nil]); first | done | rfl) ?_
        refine (HO.out _ KB.out).mono ?_
        rintro e w11 ⟨u1, u3, rfl, ho1, ho3, hb⟩
        obtain ⟨B1, d1, rfl⟩ := Kd.R_slice ho1
        obtain ⟨B3, d3, rfl⟩ := Kd.R_slice ho3
        have HO1 := Aside0.mk ho1
        have HO3 := Aside0.mk ho3
        have HB1 := Aside0.mk hb
        refine ⟨_, rfl, ?_⟩
        refine hK.out _ _ ⟨(blk_cell (blk_below K0.out HB1.out) 0).trans rfl, (blk_cell (blk_below K0.out HB1.out) 1).trans rfl, (blk_cell (blk_below K0.out HB1.out) 2).trans rfl, (blk_cell (blk_below K0.out HB1.out) 3).trans rfl⟩ (fun hHeld => ?_)
        clear hK K hb
        refine norm_ (a' := ?_) ?_ ?_
        rotate_left
        · show Act.put _ (some 26) _ = _
          simp only [Act.put, List.setIfInBounds_toArray, List.set_cons_zero, List.set_cons_succ]
          rfl
        refine three_ (i := 3) (Ni := some 28) (j := 4) (Nj := some 7) (k := 5) (Nk := some 8) #[true, true, true, true, false, false, false, false] #[true, true, true, false, true, false, false, false] #[true, true, true, false, false, true, false, false] rfl rfl rfl rfl rfl rfl (by kernel_rfl) (by decide) (by decide) (by decide) (fun K hK => ?_) (fun K hK => ?_) (fun K hK => ?_)
        · refine goes_ Tryd.func40 (by kernel_rfl) rfl #[.agg #[.int .i64 x.q, .slice A1 x.ls.length c1, .int .i64 x.k, .slice A3 x.cs.length c3]] (by rfl) rfl rfl (by (try simp only [List.map_toArray, List.map_cons, List.map_nil]); first | done | rfl) ?_
          refine (HF.out _ (below_step KB.out HB1.out)).mono ?_
          rintro e w12 ⟨D1, e1, rfl, hd1, hb⟩
          have HD1 := Aside0.mk hd1
          have HB2 := Aside0.mk hb
          refine ⟨_, rfl, ?_⟩
          refine hK.out _ _ ⟨(blk_cell (blk_below (blk_below K0.out HB1.out) HB2.out) 0).trans rfl, (blk_cell (blk_below (blk_below K0.out HB1.out) HB2.out) 1).trans rfl, (blk_cell (blk_below (blk_below K0.out HB1.out) HB2.out) 2).trans rfl, (blk_cell (blk_below (blk_below K0.out HB1.out) HB2.out) 3).trans rfl⟩ (fun hHeld => ?_)
          clear hK K hb
          refine norm_ (a' := ?_) ?_ ?_
          rotate_left
          · show Act.put _ (some 28) _ = _
            simp only [Act.put, List.setIfInBounds_toArray, List.set_cons_zero, List.set_cons_succ]
            rfl
          refine two_ (i := 4) (Ni := some 7) (j := 5) (Nj := some 8) #[true, true, true, true, true, false, false, false] #[true, true, true, true, false, true, false, false] rfl rfl rfl rfl (by kernel_rfl) (by decide) (by decide) (fun K hK => ?_) (fun K hK => ?_)
          · refine box_step ?hg (N := 7) ?hd (cs := #[.int .i64 0, .slice none 0 0, .int .i64 0, .slice none 0 0]) (t := 38) ?hr ?_; (case hd => rfl); (case hg => rfl); (case hr => first | (go_simp; done) | (go_simp; rfl))
            intro g4 hg4 w13 hbox hb
            have HX4 := Aside0.mk hbox
            have HB3 := Aside0.mk hb
            refine hK.out _ _ ⟨(blk_cell (blk_below (blk_below (blk_below K0.out HB1.out) HB2.out) HB3.out) 0).trans rfl, (blk_cell (blk_below (blk_below (blk_below K0.out HB1.out) HB2.out) HB3.out) 1).trans rfl, (blk_cell (blk_below (blk_below (blk_below K0.out HB1.out) HB2.out) HB3.out) 2).trans rfl, (blk_cell (blk_below (blk_below (blk_below K0.out HB1.out) HB2.out) HB3.out) 3).trans rfl⟩ (fun hHeld => ?_)
            clear hK K hb
            refine norm_ (a' := ?_) ?_ ?_
            rotate_left
            · show Act.put _ (some 7) _ = _
              simp only [Act.put, List.setIfInBounds_toArray, List.set_cons_zero, List.set_cons_succ]
              rfl
            refine one_ (i := 5) (N := some 8) #[true, true, true, true, true, true, false, false] rfl rfl (by kernel_rfl) (by decide) (fun K hK => ?_)
            refine box_step ?hg (N := 8) ?hd (cs := #[.int .i64 0, .slice none 0 0, .int .i64 0, .slice none 0 0]) (t := 38) ?hr ?_; (case hd => rfl); (case hg => rfl); (case hr => first | (go_simp; done) | (go_simp; rfl))
            intro g5 hg5 w14 hbox hb
            have HX5 := Aside0.mk hbox
            have HB4 := Aside0.mk hb
            refine hK.out _ _ ⟨(blk_cell (blk_below (blk_below (blk_below (blk_below K0.out HB1.out) HB2.out) HB3.out) HB4.out) 0).trans rfl, (blk_cell (blk_below (blk_below (blk_below (blk_below K0.out HB1.out) HB2.out) HB3.out) HB4.out) 1).trans rfl, (blk_cell (blk_below (blk_below (blk_below (blk_below K0.out HB1.out) HB2.out) HB3.out) HB4.out) 2).trans rfl, (blk_cell (blk_below (blk_below (blk_below (blk_below K0.out HB1.out) HB2.out) HB3.out) HB4.out) 3).trans rfl⟩ (fun hHeld => ?_)
            clear hK K hb
            refine norm_ (a' := ?_) ?_ ?_
            rotate_left
            · show Act.put _ (some 8) _ = _
              simp only [Act.put, List.setIfInBounds_toArray, List.set_cons_zero, List.set_cons_succ]
              rfl
            have z1 := HB1.out.size
            have z2 := HB2.out.size
            have z3 := HB3.out.size
            have z4 := HB4.out.size
            have y4 := blk_lt HX4.out
            have y5 := blk_lt HX5.out
            have y0 := blk_lt K2.out
            refine hcont ⟨B1, d1, B3, d3, D1, e1, g4, g5⟩ _ ⟨⟨Kd.R_lower (Kd.R_below (Kd.R_below (Kd.R_below HO1.out HB2.out) HB3.out) HB4.out) (below_size KB.out), Kd.R_lower (Kd.R_below (Kd.R_below (Kd.R_below HO3.out HB2.out) HB3.out) HB4.out) (below_size KB.out), Kd.R_lower (Kd.R_below (Kd.R_below HD1.out HB3.out) HB4.out) (below_size (below_step KB.out HB1.out)), w11.heap.size, fun k hk => ((Kd.R_bound HO1.out).1 k hk).2.2.1, fun k hk => ?_⟩, (blk_below HX4.out HB4.out), HX5.out, (show g4 ≠ g5 by omega), (show w.heap.size + 3 ≤ g4 by omega), (show w.heap.size + 3 ≤ g5 by omega), (blk_below (blk_below (blk_below (blk_below K1.out HB1.out) HB2.out) HB3.out) HB4.out), (blk_below (blk_below (blk_below (blk_below K2.out HB1.out) HB2.out) HB3.out) HB4.out), (below_step (below_step (below_step (below_step KB.out HB1.out) HB2.out) HB3.out) HB4.out)⟩
            have := ((Kd.R_bound HD1.out).1 k hk).2.1
            omega
          · refine box_step ?hg (N := 8) ?hd (cs := #[.int .i64 0, .slice none 0 0, .int .i64 0, .slice none 0 0]) (t := 38) ?hr ?_; (case hd => rfl); (case hg => rfl); (case hr => first | (go_simp; done) | (go_simp; rfl))
            intro g5 hg5 w13 hbox hb
            have HX5 := Aside0.mk hbox
            have HB3 := Aside0.mk hb
            refine hK.out _ _ ⟨(blk_cell (blk_below (blk_below (blk_below K0.out HB1.out) HB2.out) HB3.out) 0).trans rfl, (blk_cell (blk_below (blk_below (blk_below K0.out HB1.out) HB2.out) HB3.out) 1).trans rfl, (blk_cell (blk_below (blk_below (blk_below K0.out HB1.out) HB2.out) HB3.out) 2).trans rfl, (blk_cell (blk_below (blk_below (blk_below K0.out HB1.out) HB2.out) HB3.out) 3).trans rfl⟩ (fun hHeld => ?_)
            clear hK K hb
            refine norm_ (a' := ?_) ?_ ?_
            rotate_left
            · show Act.put _ (some 8) _ = _
              simp only [Act.put, List.setIfInBounds_toArray, List.set_cons_zero, List.set_cons_succ]
              rfl
            refine one_ (i := 4) (N := some 7) #[true, true, true, true, true, true, false, false] rfl rfl (by kernel_rfl) (by decide) (fun K hK => ?_)
            refine box_step ?hg (N := 7) ?hd (cs := #[.int .i64 0, .slice none 0 0, .int .i64 0, .slice none 0 0]) (t := 38) ?hr ?_; (case hd => rfl); (case hg => rfl); (case hr => first | (go_simp; done) | (go_simp; rfl))
            intro g4 hg4 w14 hbox hb
            have HX4 := Aside0.mk hbox
            have HB4 := Aside0.mk hb
            refine hK.out _ _ ⟨(blk_cell (blk_below (blk_below (blk_below (blk_below K0.out HB1.out) HB2.out) HB3.out) HB4.out) 0).trans rfl, (blk_cell (blk_below (blk_below (blk_below (blk_below K0.out HB1.out) HB2.out) HB3.out) HB4.out) 1).trans rfl, (blk_cell (blk_below (blk_below (blk_below (blk_below K0.out HB1.out) HB2.out) HB3.out) HB4.out) 2).trans rfl, (blk_cell (blk_below (blk_below (blk_below (blk_below K0.out HB1.out) HB2.out) HB3.out) HB4.out) 3).trans rfl⟩ (fun hHeld => ?_)
            clear hK K hb
            refine norm_ (a' := ?_) ?_ ?_
            rotate_left
            · show Act.put _ (some 7) _ = _
              simp only [Act.put, List.setIfInBounds_toArray, List.set_cons_zero, List.set_cons_succ]
              rfl
            have z1 := HB1.out.size
            have z2 := HB2.out.size
            have z3 := HB3.out.size
            have z4 := HB4.out.size
            have y4 := blk_lt HX4.out
            have y5 := blk_lt HX5.out
            have y0 := blk_lt K2.out
            refine hcont ⟨B1, d1, B3, d3, D1, e1, g4, g5⟩ _ ⟨⟨Kd.R_lower (Kd.R_below (Kd.R_below (Kd.R_below HO1.out HB2.out) HB3.out) HB4.out) (below_size KB.out), Kd.R_lower (Kd.R_below (Kd.R_below (Kd.R_below HO3.out HB2.out) HB3.out) HB4.out) (below_size KB.out), Kd.R_lower (Kd.R_below (Kd.R_below HD1.out HB3.out) HB4.out) (below_size (below_step KB.out HB1.out)), w11.heap.size, fun k hk => ((Kd.R_bound HO1.out).1 k hk).2.2.1, fun k hk => ?_⟩, HX4.out, (blk_below HX5.out HB4.out), (show g4 ≠ g5 by omega), (show w.heap.size + 3 ≤ g4 by omega), (show w.heap.size + 3 ≤ g5 by omega), (blk_below (blk_below (blk_below (blk_below K1.out HB1.out) HB2.out) HB3.out) HB4.out), (blk_below (blk_below (blk_below (blk_below K2.out HB1.out) HB2.out) HB3.out) HB4.out), (below_step (below_step (below_step (below_step KB.out HB1.out) HB2.out) HB3.out) HB4.out)⟩
            have := ((Kd.R_bound HD1.out).1 k hk).2.1
            omega
        · refine box_step ?hg (N := 7) ?hd (cs := #[.int .i64 0, .slice none 0 0, .int .i64 0, .slice none 0 0]) (t := 38) ?hr ?_; (case hd => rfl); (case hg => rfl); (case hr => first | (go_simp; done) | (go_simp; rfl))
          intro g4 hg4 w12 hbox hb
          have HX4 := Aside0.mk hbox
          have HB2 := Aside0.mk hb
          refine hK.out _ _ ⟨(blk_cell (blk_below (blk_below K0.out HB1.out) HB2.out) 0).trans rfl, (blk_cell (blk_below (blk_below K0.out HB1.out) HB2.out) 1).trans rfl, (blk_cell (blk_below (blk_below K0.out HB1.out) HB2.out) 2).trans rfl, (blk_cell (blk_below (blk_below K0.out HB1.out) HB2.out) 3).trans rfl⟩ (fun hHeld => ?_)
          clear hK K hb
          refine norm_ (a' := ?_) ?_ ?_
          rotate_left
          · show Act.put _ (some 7) _ = _
            simp only [Act.put, List.setIfInBounds_toArray, List.set_cons_zero, List.set_cons_succ]
            rfl
          refine two_ (i := 3) (Ni := some 28) (j := 5) (Nj := some 8) #[true, true, true, true, true, false, false, false] #[true, true, true, false, true, true, false, false] rfl rfl rfl rfl (by kernel_rfl) (by decide) (by decide) (fun K hK => ?_) (fun K hK => ?_)
          · refine goes_ Tryd.func40 (by kernel_rfl) rfl #[.agg #[.int .i64 x.q, .slice A1 x.ls.length c1, .int .i64 x.k, .slice A3 x.cs.length c3]] (by rfl) rfl rfl (by (try simp only [List.map_toArray, List.map_cons, List.map_nil]); first | done | rfl) ?_
            refine (HF.out _ (below_step (below_step KB.out HB1.out) HB2.out)).mono ?_
            rintro e w13 ⟨D1, e1, rfl, hd1, hb⟩
            have HD1 := Aside0.mk hd1
            have HB3 := Aside0.mk hb
            refine ⟨_, rfl, ?_⟩
            refine hK.out _ _ ⟨(blk_cell (blk_below (blk_below (blk_below K0.out HB1.out) HB2.out) HB3.out) 0).trans rfl, (blk_cell (blk_below (blk_below (blk_below K0.out HB1.out) HB2.out) HB3.out) 1).trans rfl, (blk_cell (blk_below (blk_below (blk_below K0.out HB1.out) HB2.out) HB3.out) 2).trans rfl, (blk_cell (blk_below (blk_below (blk_below K0.out HB1.out) HB2.out) HB3.out) 3).trans rfl⟩ (fun hHeld => ?_)
            clear hK K hb
            refine norm_ (a' := ?_) ?_ ?_
            rotate_left
            · show Act.put _ (some 28) _ = _
              simp only [Act.put, List.setIfInBounds_toArray, List.set_cons_zero, List.set_cons_succ]
              rfl
            refine one_ (i := 5) (N := some 8) #[true, true, true, true, true, true, false, false] rfl rfl (by kernel_rfl) (by decide) (fun K hK => ?_)
            refine box_step ?hg (N := 8) ?hd (cs := #[.int .i64 0, .slice none 0 0, .int .i64 0, .slice none 0 0]) (t := 38) ?hr ?_; (case hd => rfl); (case hg => rfl); (case hr => first | (go_simp; done) | (go_simp; rfl))
            intro g5 hg5 w14 hbox hb
            have HX5 := Aside0.mk hbox
            have HB4 := Aside0.mk hb
            refine hK.out _ _ ⟨(blk_cell (blk_below (blk_below (blk_below (blk_below K0.out HB1.out) HB2.out) HB3.out) HB4.out) 0).trans rfl, (blk_cell (blk_below (blk_below (blk_below (blk_below K0.out HB1.out) HB2.out) HB3.out) HB4.out) 1).trans rfl, (blk_cell (blk_below (blk_below (blk_below (blk_below K0.out HB1.out) HB2.out) HB3.out) HB4.out) 2).trans rfl, (blk_cell (blk_below (blk_below (blk_below (blk_below K0.out HB1.out) HB2.out) HB3.out) HB4.out) 3).trans rfl⟩ (fun hHeld => ?_)
            clear hK K hb
            refine norm_ (a' := ?_) ?_ ?_
            rotate_left
            · show Act.put _ (some 8) _ = _
              simp only [Act.put, List.setIfInBounds_toArray, List.set_cons_zero, List.set_cons_succ]
              rfl
            have z1 := HB1.out.size
            have z2 := HB2.out.size
            have z3 := HB3.out.size
            have z4 := HB4.out.size
            have y4 := blk_lt HX4.out
            have y5 := blk_lt HX5.out
            have y0 := blk_lt K2.out
            refine hcont ⟨B1, d1, B3, d3, D1, e1, g4, g5⟩ _ ⟨⟨Kd.R_lower (Kd.R_below (Kd.R_below (Kd.R_below HO1.out HB2.out) HB3.out) HB4.out) (below_size KB.out), Kd.R_lower (Kd.R_below (Kd.R_below (Kd.R_below HO3.out HB2.out) HB3.out) HB4.out) (below_size KB.out), Kd.R_lower (Kd.R_below HD1.out HB4.out) (below_size (below_step (below_step KB.out HB1.out) HB2.out)), w11.heap.size, fun k hk => ((Kd.R_bound HO1.out).1 k hk).2.2.1, fun k hk => ?_⟩, (blk_below (blk_below HX4.out HB3.out) HB4.out), HX5.out, (show g4 ≠ g5 by omega), (show w.heap.size + 3 ≤ g4 by omega), (show w.heap.size + 3 ≤ g5 by omega), (blk_below (blk_below (blk_below (blk_below K1.out HB1.out) HB2.out) HB3.out) HB4.out), (blk_below (blk_below (blk_below (blk_below K2.out HB1.out) HB2.out) HB3.out) HB4.out), (below_step (below_step (below_step (below_step KB.out HB1.out) HB2.out) HB3.out) HB4.out)⟩
            have := ((Kd.R_bound HD1.out).1 k hk).2.1
            omega
          · refine box_step ?hg (N := 8) ?hd (cs := #[.int .i64 0, .slice none 0 0, .int .i64 0, .slice none 0 0]) (t := 38) ?hr ?_; (case hd => rfl); (case hg => rfl); (case hr => first | (go_simp; done) | (go_simp; rfl))
            intro g5 hg5 w13 hbox hb
            have HX5 := Aside0.mk hbox
            have HB3 := Aside0.mk hb
            refine hK.out _ _ ⟨(blk_cell (blk_below (blk_below (blk_below K0.out HB1.out) HB2.out) HB3.out) 0).trans rfl, (blk_cell (blk_below (blk_below (blk_below K0.out HB1.out) HB2.out) HB3.out) 1).trans rfl, (blk_cell (blk_below (blk_below (blk_below K0.out HB1.out) HB2.out) HB3.out) 2).trans rfl, (blk_cell (blk_below (blk_below (blk_below K0.out HB1.out) HB2.out) HB3.out) 3).trans rfl⟩ (fun hHeld => ?_)
            clear hK K hb
            refine norm_ (a' := ?_) ?_ ?_
            rotate_left
            · show Act.put _ (some 8) _ = _
              simp only [Act.put, List.setIfInBounds_toArray, List.set_cons_zero, List.set_cons_succ]
              rfl
            refine one_ (i := 3) (N := some 28) #[true, true, true, true, true, true, false, false] rfl rfl (by kernel_rfl) (by decide) (fun K hK => ?_)
            refine goes_ Tryd.func40 (by kernel_rfl) rfl #[.agg #[.int .i64 x.q, .slice A1 x.ls.length c1, .int .i64 x.k, .slice A3 x.cs.length c3]] (by rfl) rfl rfl (by (try simp only [List.map_toArray, List.map_cons, List.map_nil]); first | done | rfl) ?_
            refine (HF.out _ (below_step (below_step (below_step KB.out HB1.out) HB2.out) HB3.out)).mono ?_
            rintro e w14 ⟨D1, e1, rfl, hd1, hb⟩
            have HD1 := Aside0.mk hd1
            have HB4 := Aside0.mk hb
            refine ⟨_, rfl, ?_⟩
            refine hK.out _ _ ⟨(blk_cell (blk_below (blk_below (blk_below (blk_below K0.out HB1.out) HB2.out) HB3.out) HB4.out) 0).trans rfl, (blk_cell (blk_below (blk_below (blk_below (blk_below K0.out HB1.out) HB2.out) HB3.out) HB4.out) 1).trans rfl, (blk_cell (blk_below (blk_below (blk_below (blk_below K0.out HB1.out) HB2.out) HB3.out) HB4.out) 2).trans rfl, (blk_cell (blk_below (blk_below (blk_below (blk_below K0.out HB1.out) HB2.out) HB3.out) HB4.out) 3).trans rfl⟩ (fun hHeld => ?_)
            clear hK K hb
            refine norm_ (a' := ?_) ?_ ?_
            rotate_left
            · show Act.put _ (some 28) _ = _
              simp only [Act.put, List.setIfInBounds_toArray, List.set_cons_zero, List.set_cons_succ]
              rfl
            have z1 := HB1.out.size
            have z2 := HB2.out.size
            have z3 := HB3.out.size
            have z4 := HB4.out.size
            have y4 := blk_lt HX4.out
            have y5 := blk_lt HX5.out
            have y0 := blk_lt K2.out
            refine hcont ⟨B1, d1, B3, d3, D1, e1, g4, g5⟩ _ ⟨⟨Kd.R_lower (Kd.R_below (Kd.R_below (Kd.R_below HO1.out HB2.out) HB3.out) HB4.out) (below_size KB.out), Kd.R_lower (Kd.R_below (Kd.R_below (Kd.R_below HO3.out HB2.out) HB3.out) HB4.out) (below_size KB.out), Kd.R_lower HD1.out (below_size (below_step (below_step (below_step KB.out HB1.out) HB2.out) HB3.out)), w11.heap.size, fun k hk => ((Kd.R_bound HO1.out).1 k hk).2.2.1, fun k hk => ?_⟩, (blk_below (blk_below HX4.out HB3.out) HB4.out), (blk_below HX5.out HB4.out), (show g4 ≠ g5 by omega), (show w.heap.size + 3 ≤ g4 by omega), (show w.heap.size + 3 ≤ g5 by omega), (blk_below (blk_below (blk_below (blk_below K1.out HB1.out) HB2.out) HB3.out) HB4.out), (blk_below (blk_below (blk_below (blk_below K2.out HB1.out) HB2.out) HB3.out) HB4.out), (below_step (below_step (below_step (below_step KB.out HB1.out) HB2.out) HB3.out) HB4.out)⟩
            have := ((Kd.R_bound HD1.out).1 k hk).2.1
            omega
        · refine box_step ?hg (N := 8) ?hd (cs := #[.int .i64 0, .slice none 0 0, .int .i64 0, .slice none 0 0]) (t := 38) ?hr ?_; (case hd => rfl); (case hg => rfl); (case hr => first | (go_simp; done) | (go_simp; rfl))
          intro g5 hg5 w12 hbox hb
          have HX5 := Aside0.mk hbox
          have HB2 := Aside0.mk hb
          refine hK.out _ _ ⟨(blk_cell (blk_below (blk_below K0.out HB1.out) HB2.out) 0).trans rfl, (blk_cell (blk_below (blk_below K0.out HB1.out) HB2.out) 1).trans rfl, (blk_cell (blk_below (blk_below K0.out HB1.out) HB2.out) 2).trans rfl, (blk_cell (blk_below (blk_below K0.out HB1.out) HB2.out) 3).trans rfl⟩ (fun hHeld => ?_)
          clear hK K hb
          refine norm_ (a' := ?_) ?_ ?_
          rotate_left
          · show Act.put _ (some 8) _ = _
            simp only [Act.put, List.setIfInBounds_toArray, List.set_cons_zero, List.set_cons_succ]
            rfl
          refine two_ (i := 3) (Ni := some 28) (j := 4) (Nj := some 7) #[true, true, true, true, false, true, false, false] #[true, true, true, false, true, true, false, false] rfl rfl rfl rfl (by kernel_rfl) (by decide) (by decide) (fun K hK => ?_) (fun K hK => ?_)
          · refine goes_ Tryd.func40 (by kernel_rfl) rfl #[.agg #[.int .i64 x.q, .slice A1 x.ls.length c1, .int .i64 x.k, .slice A3 x.cs.length c3]] (by rfl) rfl rfl (by (try simp only [List.map_toArray, List.map_cons, List.map_nil]); first | done | rfl) ?_
            refine (HF.out _ (below_step (below_step KB.out HB1.out) HB2.out)).mono ?_
            rintro e w13 ⟨D1, e1, rfl, hd1, hb⟩
            have HD1 := Aside0.mk hd1
            have HB3 := Aside0.mk hb
            refine ⟨_, rfl, ?_⟩
            refine hK.out _ _ ⟨(blk_cell (blk_below (blk_below (blk_below K0.out HB1.out) HB2.out) HB3.out) 0).trans rfl, (blk_cell (blk_below (blk_below (blk_below K0.out HB1.out) HB2.out) HB3.out) 1).trans rfl, (blk_cell (blk_below (blk_below (blk_below K0.out HB1.out) HB2.out) HB3.out) 2).trans rfl, (blk_cell (blk_below (blk_below (blk_below K0.out HB1.out) HB2.out) HB3.out) 3).trans rfl⟩ (fun hHeld => ?_)
            clear hK K hb
            refine norm_ (a' := ?_) ?_ ?_
            rotate_left
            · show Act.put _ (some 28) _ = _
              simp only [Act.put, List.setIfInBounds_toArray, List.set_cons_zero, List.set_cons_succ]
              rfl
            refine one_ (i := 4) (N := some 7) #[true, true, true, true, true, true, false, false] rfl rfl (by kernel_rfl) (by decide) (fun K hK => ?_)
            refine box_step ?hg (N := 7) ?hd (cs := #[.int .i64 0, .slice none 0 0, .int .i64 0, .slice none 0 0]) (t := 38) ?hr ?_; (case hd => rfl); (case hg => rfl); (case hr => first | (go_simp; done) | (go_simp; rfl))
            intro g4 hg4 w14 hbox hb
            have HX4 := Aside0.mk hbox
            have HB4 := Aside0.mk hb
            refine hK.out _ _ ⟨(blk_cell (blk_below (blk_below (blk_below (blk_below K0.out HB1.out) HB2.out) HB3.out) HB4.out) 0).trans rfl, (blk_cell (blk_below (blk_below (blk_below (blk_below K0.out HB1.out) HB2.out) HB3.out) HB4.out) 1).trans rfl, (blk_cell (blk_below (blk_below (blk_below (blk_below K0.out HB1.out) HB2.out) HB3.out) HB4.out) 2).trans rfl, (blk_cell (blk_below (blk_below (blk_below (blk_below K0.out HB1.out) HB2.out) HB3.out) HB4.out) 3).trans rfl⟩ (fun hHeld => ?_)
            clear hK K hb
            refine norm_ (a' := ?_) ?_ ?_
            rotate_left
            · show Act.put _ (some 7) _ = _
              simp only [Act.put, List.setIfInBounds_toArray, List.set_cons_zero, List.set_cons_succ]
              rfl
            have z1 := HB1.out.size
            have z2 := HB2.out.size
            have z3 := HB3.out.size
            have z4 := HB4.out.size
            have y4 := blk_lt HX4.out
            have y5 := blk_lt HX5.out
            have y0 := blk_lt K2.out
            refine hcont ⟨B1, d1, B3, d3, D1, e1, g4, g5⟩ _ ⟨⟨Kd.R_lower (Kd.R_below (Kd.R_below (Kd.R_below HO1.out HB2.out) HB3.out) HB4.out) (below_size KB.out), Kd.R_lower (Kd.R_below (Kd.R_below (Kd.R_below HO3.out HB2.out) HB3.out) HB4.out) (below_size KB.out), Kd.R_lower (Kd.R_below HD1.out HB4.out) (below_size (below_step (below_step KB.out HB1.out) HB2.out)), w11.heap.size, fun k hk => ((Kd.R_bound HO1.out).1 k hk).2.2.1, fun k hk => ?_⟩, HX4.out, (blk_below (blk_below HX5.out HB3.out) HB4.out), (show g4 ≠ g5 by omega), (show w.heap.size + 3 ≤ g4 by omega), (show w.heap.size + 3 ≤ g5 by omega), (blk_below (blk_below (blk_below (blk_below K1.out HB1.out) HB2.out) HB3.out) HB4.out), (blk_below (blk_below (blk_below (blk_below K2.out HB1.out) HB2.out) HB3.out) HB4.out), (below_step (below_step (below_step (below_step KB.out HB1.out) HB2.out) HB3.out) HB4.out)⟩
            have := ((Kd.R_bound HD1.out).1 k hk).2.1
            omega
          · refine box_step ?hg (N := 7) ?hd (cs := #[.int .i64 0, .slice none 0 0, .int .i64 0, .slice none 0 0]) (t := 38) ?hr ?_; (case hd => rfl); (case hg => rfl); (case hr => first | (go_simp; done) | (go_simp; rfl))
            intro g4 hg4 w13 hbox hb
            have HX4 := Aside0.mk hbox
            have HB3 := Aside0.mk hb
            refine hK.out _ _ ⟨(blk_cell (blk_below (blk_below (blk_below K0.out HB1.out) HB2.out) HB3.out) 0).trans rfl, (blk_cell (blk_below (blk_below (blk_below K0.out HB1.out) HB2.out) HB3.out) 1).trans rfl, (blk_cell (blk_below (blk_below (blk_below K0.out HB1.out) HB2.out) HB3.out) 2).trans rfl, (blk_cell (blk_below (blk_below (blk_below K0.out HB1.out) HB2.out) HB3.out) 3).trans rfl⟩ (fun hHeld => ?_)
            clear hK K hb
            refine norm_ (a' := ?_) ?_ ?_
            rotate_left
            · show Act.put _ (some 7) _ = _
              simp only [Act.put, List.setIfInBounds_toArray, List.set_cons_zero, List.set_cons_succ]
              rfl
            refine one_ (i := 3) (N := some 28) #[true, true, true, true, true, true, false, false] rfl rfl (by kernel_rfl) (by decide) (fun K hK => ?_)
            refine goes_ Tryd.func40 (by kernel_rfl) rfl #[.agg #[.int .i64 x.q, .slice A1 x.ls.length c1, .int .i64 x.k, .slice A3 x.cs.length c3]] (by rfl) rfl rfl (by (try simp only [List.map_toArray, List.map_cons, List.map_nil]); first | done | rfl) ?_
            refine (HF.out _ (below_step (below_step (below_step KB.out HB1.out) HB2.out) HB3.out)).mono ?_
            rintro e w14 ⟨D1, e1, rfl, hd1, hb⟩
            have HD1 := Aside0.mk hd1
            have HB4 := Aside0.mk hb
            refine ⟨_, rfl, ?_⟩
            refine hK.out _ _ ⟨(blk_cell (blk_below (blk_below (blk_below (blk_below K0.out HB1.out) HB2.out) HB3.out) HB4.out) 0).trans rfl, (blk_cell (blk_below (blk_below (blk_below (blk_below K0.out HB1.out) HB2.out) HB3.out) HB4.out) 1).trans rfl, (blk_cell (blk_below (blk_below (blk_below (blk_below K0.out HB1.out) HB2.out) HB3.out) HB4.out) 2).trans rfl, (blk_cell (blk_below (blk_below (blk_below (blk_below K0.out HB1.out) HB2.out) HB3.out) HB4.out) 3).trans rfl⟩ (fun hHeld => ?_)
            clear hK K hb
            refine norm_ (a' := ?_) ?_ ?_
            rotate_left
            · show Act.put _ (some 28) _ = _
              simp only [Act.put, List.setIfInBounds_toArray, List.set_cons_zero, List.set_cons_succ]
              rfl
            have z1 := HB1.out.size
            have z2 := HB2.out.size
            have z3 := HB3.out.size
            have z4 := HB4.out.size
            have y4 := blk_lt HX4.out
            have y5 := blk_lt HX5.out
            have y0 := blk_lt K2.out
            refine hcont ⟨B1, d1, B3, d3, D1, e1, g4, g5⟩ _ ⟨⟨Kd.R_lower (Kd.R_below (Kd.R_below (Kd.R_below HO1.out HB2.out) HB3.out) HB4.out) (below_size KB.out), Kd.R_lower (Kd.R_below (Kd.R_below (Kd.R_below HO3.out HB2.out) HB3.out) HB4.out) (below_size KB.out), Kd.R_lower HD1.out (below_size (below_step (below_step (below_step KB.out HB1.out) HB2.out) HB3.out)), w11.heap.size, fun k hk => ((Kd.R_bound HO1.out).1 k hk).2.2.1, fun k hk => ?_⟩, (blk_below HX4.out HB4.out), (blk_below (blk_below HX5.out HB3.out) HB4.out), (show g4 ≠ g5 by omega), (show w.heap.size + 3 ≤ g4 by omega), (show w.heap.size + 3 ≤ g5 by omega), (blk_below (blk_below (blk_below (blk_below K1.out HB1.out) HB2.out) HB3.out) HB4.out), (blk_below (blk_below (blk_below (blk_below K2.out HB1.out) HB2.out) HB3.out) HB4.out), (below_step (below_step (below_step (below_step KB.out HB1.out) HB2.out) HB3.out) HB4.out)⟩
            have := ((Kd.R_bound HD1.out).1 k hk).2.1
            omega
      · refine box_step ?hg (N := 7) ?hd (cs := #[.int .i64 0, .slice none 0 0, .int .i64 0, .slice none 0 0]) (t := 38) ?hr ?_; (case hd => rfl); (case hg => rfl); (case hr => first | (go_simp; done) | (go_simp; rfl))
        intro g4 hg4 w11 hbox hb
        have HX4 := Aside0.mk hbox
        have HB1 := Aside0.mk hb
        refine hK.out _ _ ⟨(blk_cell (blk_below K0.out HB1.out) 0).trans rfl, (blk_cell (blk_below K0.out HB1.out) 1).trans rfl, (blk_cell (blk_below K0.out HB1.out) 2).trans rfl, (blk_cell (blk_below K0.out HB1.out) 3).trans rfl⟩ (fun hHeld => ?_)
        clear hK K hb
        refine norm_ (a' := ?_) ?_ ?_
        rotate_left
        · show Act.put _ (some 7) _ = _
          simp only [Act.put, List.setIfInBounds_toArray, List.set_cons_zero, List.set_cons_succ]
          rfl
        refine two_ (i := 1) (Ni := some 26) (j := 5) (Nj := some 8) #[true, true, true, false, true, false, false, false] #[true, false, true, false, true, true, false, false] rfl rfl rfl rfl (by kernel_rfl) (by decide) (by decide) (fun K hK => ?_) (fun K hK => ?_)
        · refine goes_ Tryd.func39 (by kernel_rfl) rfl #[.agg #[.int .i64 x.q, .slice A1 x.ls.length c1, .int .i64 x.k, .slice A3 x.cs.length c3]] (by rfl) rfl rfl (by (try simp only [List.map_toArray, List.map_cons, List.map_nil]); first | done | rfl) ?_
          refine (HO.out _ (below_step KB.out HB1.out)).mono ?_
          rintro e w12 ⟨u1, u3, rfl, ho1, ho3, hb⟩
          obtain ⟨B1, d1, rfl⟩ := Kd.R_slice ho1
          obtain ⟨B3, d3, rfl⟩ := Kd.R_slice ho3
          have HO1 := Aside0.mk ho1
          have HO3 := Aside0.mk ho3
          have HB2 := Aside0.mk hb
          refine ⟨_, rfl, ?_⟩
          refine hK.out _ _ ⟨(blk_cell (blk_below (blk_below K0.out HB1.out) HB2.out) 0).trans rfl, (blk_cell (blk_below (blk_below K0.out HB1.out) HB2.out) 1).trans rfl, (blk_cell (blk_below (blk_below K0.out HB1.out) HB2.out) 2).trans rfl, (blk_cell (blk_below (blk_below K0.out HB1.out) HB2.out) 3).trans rfl⟩ (fun hHeld => ?_)
          clear hK K hb
          refine norm_ (a' := ?_) ?_ ?_
          rotate_left
          · show Act.put _ (some 26) _ = _
            simp only [Act.put, List.setIfInBounds_toArray, List.set_cons_zero, List.set_cons_succ]
            rfl
          refine two_ (i := 3) (Ni := some 28) (j := 5) (Nj := some 8) #[true, true, true, true, true, false, false, false] #[true, true, true, false, true, true, false, false] rfl rfl rfl rfl (by kernel_rfl) (by decide) (by decide) (fun K hK => ?_) (fun K hK => ?_)
          · refine goes_ Tryd.func40 (by kernel_rfl) rfl #[.agg #[.int .i64 x.q, .slice A1 x.ls.length c1, .int .i64 x.k, .slice A3 x.cs.length c3]] (by rfl) rfl rfl (by (try simp only [List.map_toArray, List.map_cons, List.map_nil]); first | done | rfl) ?_
            refine (HF.out _ (below_step (below_step KB.out HB1.out) HB2.out)).mono ?_
            rintro e w13 ⟨D1, e1, rfl, hd1, hb⟩
            have HD1 := Aside0.mk hd1
            have HB3 := Aside0.mk hb
            refine ⟨_, rfl, ?_⟩
            refine hK.out _ _ ⟨(blk_cell (blk_below (blk_below (blk_below K0.out HB1.out) HB2.out) HB3.out) 0).trans rfl, (blk_cell (blk_below (blk_below (blk_below K0.out HB1.out) HB2.out) HB3.out) 1).trans rfl, (blk_cell (blk_below (blk_below (blk_below K0.out HB1.out) HB2.out) HB3.out) 2).trans rfl, (blk_cell (blk_below (blk_below (blk_below K0.out HB1.out) HB2.out) HB3.out) 3).trans rfl⟩ (fun hHeld => ?_)
            clear hK K hb
            refine norm_ (a' := ?_) ?_ ?_
            rotate_left
            · show Act.put _ (some 28) _ = _
              simp only [Act.put, List.setIfInBounds_toArray, List.set_cons_zero, List.set_cons_succ]
              rfl
            refine one_ (i := 5) (N := some 8) #[true, true, true, true, true, true, false, false] rfl rfl (by kernel_rfl) (by decide) (fun K hK => ?_)
            refine box_step ?hg (N := 8) ?hd (cs := #[.int .i64 0, .slice none 0 0, .int .i64 0, .slice none 0 0]) (t := 38) ?hr ?_; (case hd => rfl); (case hg => rfl); (case hr => first | (go_simp; done) | (go_simp; rfl))
            intro g5 hg5 w14 hbox hb
            have HX5 := Aside0.mk hbox
            have HB4 := Aside0.mk hb
            refine hK.out _ _ ⟨(blk_cell (blk_below (blk_below (blk_below (blk_below K0.out HB1.out) HB2.out) HB3.out) HB4.out) 0).trans rfl, (blk_cell (blk_below (blk_below (blk_below (blk_below K0.out HB1.out) HB2.out) HB3.out) HB4.out) 1).trans rfl, (blk_cell (blk_below (blk_below (blk_below (blk_below K0.out HB1.out) HB2.out) HB3.out) HB4.out) 2).trans rfl, (blk_cell (blk_below (blk_below (blk_below (blk_below K0.out HB1.out) HB2.out) HB3.out) HB4.out) 3).trans rfl⟩ (fun hHeld => ?_)
            clear hK K hb
            refine norm_ (a' := ?_) ?_ ?_
            rotate_left
            · show Act.put _ (some 8) _ = _
              simp only [Act.put, List.setIfInBounds_toArray, List.set_cons_zero, List.set_cons_succ]
              rfl
            have z1 := HB1.out.size
            have z2 := HB2.out.size
            have z3 := HB3.out.size
            have z4 := HB4.out.size
            have y4 := blk_lt HX4.out
            have y5 := blk_lt HX5.out
            have y0 := blk_lt K2.out
            refine hcont ⟨B1, d1, B3, d3, D1, e1, g4, g5⟩ _ ⟨⟨Kd.R_lower (Kd.R_below (Kd.R_below HO1.out HB3.out) HB4.out) (below_size (below_step KB.out HB1.out)), Kd.R_lower (Kd.R_below (Kd.R_below HO3.out HB3.out) HB4.out) (below_size (below_step KB.out HB1.out)), Kd.R_lower (Kd.R_below HD1.out HB4.out) (below_size (below_step (below_step KB.out HB1.out) HB2.out)), w12.heap.size, fun k hk => ((Kd.R_bound HO1.out).1 k hk).2.2.1, fun k hk => ?_⟩, (blk_below (blk_below (blk_below HX4.out HB2.out) HB3.out) HB4.out), HX5.out, (show g4 ≠ g5 by omega), (show w.heap.size + 3 ≤ g4 by omega), (show w.heap.size + 3 ≤ g5 by omega), (blk_below (blk_below (blk_below (blk_below K1.out HB1.out) HB2.out) HB3.out) HB4.out), (blk_below (blk_below (blk_below (blk_below K2.out HB1.out) HB2.out) HB3.out) HB4.out), (below_step (below_step (below_step (below_step KB.out HB1.out) HB2.out) HB3.out) HB4.out)⟩
            have := ((Kd.R_bound HD1.out).1 k hk).2.1
            omega
          · refine box_step ?hg (N := 8) ?hd (cs := #[.int .i64 0, .slice none 0 0, .int .i64 0, .slice none 0 0]) (t := 38) ?hr ?_; (case hd => rfl); (case hg => rfl); (case hr => first | (go_simp; done) | (go_simp; rfl))
            intro g5 hg5 w13 hbox hb
            have HX5 := Aside0.mk hbox
            have HB3 := Aside0.mk hb
            refine hK.out _ _ ⟨(blk_cell (blk_below (blk_below (blk_below K0.out HB1.out) HB2.out) HB3.out) 0).trans rfl, (blk_cell (blk_below (blk_below (blk_below K0.out HB1.out) HB2.out) HB3.out) 1).trans rfl, (blk_cell (blk_below (blk_below (blk_below K0.out HB1.out) HB2.out) HB3.out) 2).trans rfl, (blk_cell (blk_below (blk_below (blk_below K0.out HB1.out) HB2.out) HB3.out) 3).trans rfl⟩ (fun hHeld => ?_)
            clear hK K hb
            refine norm_ (a' := ?_) ?_ ?_
            rotate_left
            · show Act.put _ (some 8) _ = _
              simp only [Act.put, List.setIfInBounds_toArray, List.set_cons_zero, List.set_cons_succ]
              rfl
            refine one_ (i := 3) (N := some 28) #[true, true, true, true, true, true, false, false] rfl rfl (by kernel_rfl) (by decide) (fun K hK => ?_)
            refine goes_ Tryd.func40 (by kernel_rfl) rfl #[.agg #[.int .i64 x.q, .slice A1 x.ls.length c1, .int .i64 x.k, .slice A3 x.cs.length c3]] (by rfl) rfl rfl (by (try simp only [List.map_toArray, List.map_cons, List.map_nil]); first | done | rfl) ?_
            refine (HF.out _ (below_step (below_step (below_step KB.out HB1.out) HB2.out) HB3.out)).mono ?_
            rintro e w14 ⟨D1, e1, rfl, hd1, hb⟩
            have HD1 := Aside0.mk hd1
            have HB4 := Aside0.mk hb
            refine ⟨_, rfl, ?_⟩
            refine hK.out _ _ ⟨(blk_cell (blk_below (blk_below (blk_below (blk_below K0.out HB1.out) HB2.out) HB3.out) HB4.out) 0).trans rfl, (blk_cell (blk_below (blk_below (blk_below (blk_below K0.out HB1.out) HB2.out) HB3.out) HB4.out) 1).trans rfl, (blk_cell (blk_below (blk_below (blk_below (blk_below K0.out HB1.out) HB2.out) HB3.out) HB4.out) 2).trans rfl, (blk_cell (blk_below (blk_below (blk_below (blk_below K0.out HB1.out) HB2.out) HB3.out) HB4.out) 3).trans rfl⟩ (fun hHeld => ?_)
            clear hK K hb
            refine norm_ (a' := ?_) ?_ ?_
            rotate_left
            · show Act.put _ (some 28) _ = _
              simp only [Act.put, List.setIfInBounds_toArray, List.set_cons_zero, List.set_cons_succ]
              rfl
            have z1 := HB1.out.size
            have z2 := HB2.out.size
            have z3 := HB3.out.size
            have z4 := HB4.out.size
            have y4 := blk_lt HX4.out
            have y5 := blk_lt HX5.out
            have y0 := blk_lt K2.out
            refine hcont ⟨B1, d1, B3, d3, D1, e1, g4, g5⟩ _ ⟨⟨Kd.R_lower (Kd.R_below (Kd.R_below HO1.out HB3.out) HB4.out) (below_size (below_step KB.out HB1.out)), Kd.R_lower (Kd.R_below (Kd.R_below HO3.out HB3.out) HB4.out) (below_size (below_step KB.out HB1.out)), Kd.R_lower HD1.out (below_size (below_step (below_step (below_step KB.out HB1.out) HB2.out) HB3.out)), w12.heap.size, fun k hk => ((Kd.R_bound HO1.out).1 k hk).2.2.1, fun k hk => ?_⟩, (blk_below (blk_below (blk_below HX4.out HB2.out) HB3.out) HB4.out), (blk_below HX5.out HB4.out), (show g4 ≠ g5 by omega), (show w.heap.size + 3 ≤ g4 by omega), (show w.heap.size + 3 ≤ g5 by omega), (blk_below (blk_below (blk_below (blk_below K1.out HB1.out) HB2.out) HB3.out) HB4.out), (blk_below (blk_below (blk_below (blk_below K2.out HB1.out) HB2.out) HB3.out) HB4.out), (below_step (below_step (below_step (below_step KB.out HB1.out) HB2.out) HB3.out) HB4.out)⟩
            have := ((Kd.R_bound HD1.out).1 k hk).2.1
            omega
        · refine box_step ?hg (N := 8) ?hd (cs := #[.int .i64 0, .slice none 0 0, .int .i64 0, .slice none 0 0]) (t := 38) ?hr ?_; (case hd => rfl); (case hg => rfl); (case hr => first | (go_simp; done) | (go_simp; rfl))
          intro g5 hg5 w12 hbox hb
          have HX5 := Aside0.mk hbox
          have HB2 := Aside0.mk hb
          refine hK.out _ _ ⟨(blk_cell (blk_below (blk_below K0.out HB1.out) HB2.out) 0).trans rfl, (blk_cell (blk_below (blk_below K0.out HB1.out) HB2.out) 1).trans rfl, (blk_cell (blk_below (blk_below K0.out HB1.out) HB2.out) 2).trans rfl, (blk_cell (blk_below (blk_below K0.out HB1.out) HB2.out) 3).trans rfl⟩ (fun hHeld => ?_)
          clear hK K hb
          refine norm_ (a' := ?_) ?_ ?_
          rotate_left
          · show Act.put _ (some 8) _ = _
            simp only [Act.put, List.setIfInBounds_toArray, List.set_cons_zero, List.set_cons_succ]
            rfl
          refine one_ (i := 1) (N := some 26) #[true, true, true, false, true, true, false, false] rfl rfl (by kernel_rfl) (by decide) (fun K hK => ?_)
          refine goes_ Tryd.func39 (by kernel_rfl) rfl #[.agg #[.int .i64 x.q, .slice A1 x.ls.length c1, .int .i64 x.k, .slice A3 x.cs.length c3]] (by rfl) rfl rfl (by (try simp only [List.map_toArray, List.map_cons, List.map_nil]); first | done | rfl) ?_
          refine (HO.out _ (below_step (below_step KB.out HB1.out) HB2.out)).mono ?_
          rintro e w13 ⟨u1, u3, rfl, ho1, ho3, hb⟩
          obtain ⟨B1, d1, rfl⟩ := Kd.R_slice ho1
          obtain ⟨B3, d3, rfl⟩ := Kd.R_slice ho3
          have HO1 := Aside0.mk ho1
          have HO3 := Aside0.mk ho3
          have HB3 := Aside0.mk hb
          refine ⟨_, rfl, ?_⟩
          refine hK.out _ _ ⟨(blk_cell (blk_below (blk_below (blk_below K0.out HB1.out) HB2.out) HB3.out) 0).trans rfl, (blk_cell (blk_below (blk_below (blk_below K0.out HB1.out) HB2.out) HB3.out) 1).trans rfl, (blk_cell (blk_below (blk_below (blk_below K0.out HB1.out) HB2.out) HB3.out) 2).trans rfl, (blk_cell (blk_below (blk_below (blk_below K0.out HB1.out) HB2.out) HB3.out) 3).trans rfl⟩ (fun hHeld => ?_)
          clear hK K hb
          refine norm_ (a' := ?_) ?_ ?_
          rotate_left
          · show Act.put _ (some 26) _ = _
            simp only [Act.put, List.setIfInBounds_toArray, List.set_cons_zero, List.set_cons_succ]
            rfl
          refine one_ (i := 3) (N := some 28) #[true, true, true, true, true, true, false, false] rfl rfl (by kernel_rfl) (by decide) (fun K hK => ?_)
          refine goes_ Tryd.func40 (by kernel_rfl) rfl #[.agg #[.int .i64 x.q, .slice A1 x.ls.length c1, .int .i64 x.k, .slice A3 x.cs.length c3]] (by rfl) rfl rfl (by (try simp only [List.map_toArray, List.map_cons, List.map_nil]); first | done | rfl) ?_
          refine (HF.out _ (below_step (below_step (below_step KB.out HB1.out) HB2.out) HB3.out)).mono ?_
          rintro e w14 ⟨D1, e1, rfl, hd1, hb⟩
          have HD1 := Aside0.mk hd1
          have HB4 := Aside0.mk hb
          refine ⟨_, rfl, ?_⟩
          refine hK.out _ _ ⟨(blk_cell (blk_below (blk_below (blk_below (blk_below K0.out HB1.out) HB2.out) HB3.out) HB4.out) 0).trans rfl, (blk_cell (blk_below (blk_below (blk_below (blk_below K0.out HB1.out) HB2.out) HB3.out) HB4.out) 1).trans rfl, (blk_cell (blk_below (blk_below (blk_below (blk_below K0.out HB1.out) HB2.out) HB3.out) HB4.out) 2).trans rfl, (blk_cell (blk_below (blk_below (blk_below (blk_below K0.out HB1.out) HB2.out) HB3.out) HB4.out) 3).trans rfl⟩ (fun hHeld => ?_)
          clear hK K hb
          refine norm_ (a' := ?_) ?_ ?_
          rotate_left
          · show Act.put _ (some 28) _ = _
            simp only [Act.put, List.setIfInBounds_toArray, List.set_cons_zero, List.set_cons_succ]
            rfl
          have z1 := HB1.out.size
          have z2 := HB2.out.size
          have z3 := HB3.out.size
          have z4 := HB4.out.size
          have y4 := blk_lt HX4.out
          have y5 := blk_lt HX5.out
          have y0 := blk_lt K2.out
          refine hcont ⟨B1, d1, B3, d3, D1, e1, g4, g5⟩ _ ⟨⟨Kd.R_lower (Kd.R_below HO1.out HB4.out) (below_size (below_step (below_step KB.out HB1.out) HB2.out)), Kd.R_lower (Kd.R_below HO3.out HB4.out) (below_size (below_step (below_step KB.out HB1.out) HB2.out)), Kd.R_lower HD1.out (below_size (below_step (below_step (below_step KB.out HB1.out) HB2.out) HB3.out)), w13.heap.size, fun k hk => ((Kd.R_bound HO1.out).1 k hk).2.2.1, fun k hk => ?_⟩, (blk_below (blk_below (blk_below HX4.out HB2.out) HB3.out) HB4.out), (blk_below (blk_below HX5.out HB3.out) HB4.out), (show g4 ≠ g5 by omega), (show w.heap.size + 3 ≤ g4 by omega), (show w.heap.size + 3 ≤ g5 by omega), (blk_below (blk_below (blk_below (blk_below K1.out HB1.out) HB2.out) HB3.out) HB4.out), (blk_below (blk_below (blk_below (blk_below K2.out HB1.out) HB2.out) HB3.out) HB4.out), (below_step (below_step (below_step (below_step KB.out HB1.out) HB2.out) HB3.out) HB4.out)⟩
          have := ((Kd.R_bound HD1.out).1 k hk).2.1
          omega
      · refine box_step ?hg (N := 8) ?hd (cs := #[.int .i64 0, .slice none 0 0, .int .i64 0, .slice none 0 0]) (t := 38) ?hr ?_; (case hd => rfl); (case hg => rfl); (case hr => first | (go_simp; done) | (go_simp; rfl))
        intro g5 hg5 w11 hbox hb
        have HX5 := Aside0.mk hbox
        have HB1 := Aside0.mk hb
        refine hK.out _ _ ⟨(blk_cell (blk_below K0.out HB1.out) 0).trans rfl, (blk_cell (blk_below K0.out HB1.out) 1).trans rfl, (blk_cell (blk_below K0.out HB1.out) 2).trans rfl, (blk_cell (blk_below K0.out HB1.out) 3).trans rfl⟩ (fun hHeld => ?_)
        clear hK K hb
        refine norm_ (a' := ?_) ?_ ?_
        rotate_left
        · show Act.put _ (some 8) _ = _
          simp only [Act.put, List.setIfInBounds_toArray, List.set_cons_zero, List.set_cons_succ]
          rfl
        refine two_ (i := 1) (Ni := some 26) (j := 4) (Nj := some 7) #[true, true, true, false, false, true, false, false] #[true, false, true, false, true, true, false, false] rfl rfl rfl rfl (by kernel_rfl) (by decide) (by decide) (fun K hK => ?_) (fun K hK => ?_)
        · refine goes_ Tryd.func39 (by kernel_rfl) rfl #[.agg #[.int .i64 x.q, .slice A1 x.ls.length c1, .int .i64 x.k, .slice A3 x.cs.length c3]] (by rfl) rfl rfl (by (try simp only [List.map_toArray, List.map_cons, List.map_nil]); first | done | rfl) ?_
          refine (HO.out _ (below_step KB.out HB1.out)).mono ?_
          rintro e w12 ⟨u1, u3, rfl, ho1, ho3, hb⟩
          obtain ⟨B1, d1, rfl⟩ := Kd.R_slice ho1
          obtain ⟨B3, d3, rfl⟩ := Kd.R_slice ho3
          have HO1 := Aside0.mk ho1
          have HO3 := Aside0.mk ho3
          have HB2 := Aside0.mk hb
          refine ⟨_, rfl, ?_⟩
          refine hK.out _ _ ⟨(blk_cell (blk_below (blk_below K0.out HB1.out) HB2.out) 0).trans rfl, (blk_cell (blk_below (blk_below K0.out HB1.out) HB2.out) 1).trans rfl, (blk_cell (blk_below (blk_below K0.out HB1.out) HB2.out) 2).trans rfl, (blk_cell (blk_below (blk_below K0.out HB1.out) HB2.out) 3).trans rfl⟩ (fun hHeld => ?_)
          clear hK K hb
          refine norm_ (a' := ?_) ?_ ?_
          rotate_left
          · show Act.put _ (some 26) _ = _
            simp only [Act.put, List.setIfInBounds_toArray, List.set_cons_zero, List.set_cons_succ]
            rfl
          refine two_ (i := 3) (Ni := some 28) (j := 4) (Nj := some 7) #[true, true, true, true, false, true, false, false] #[true, true, true, false, true, true, false, false] rfl rfl rfl rfl (by kernel_rfl) (by decide) (by decide) (fun K hK => ?_) (fun K hK => ?_)
          · refine goes_ Tryd.func40 (by kernel_rfl) rfl #[.agg #[.int .i64 x.q, .slice A1 x.ls.length c1, .int .i64 x.k, .slice A3 x.cs.length c3]] (by rfl) rfl rfl (by (try simp only [List.map_toArray, List.map_cons, List.map_nil]); first | done | rfl) ?_
            refine (HF.out _ (below_step (below_step KB.out HB1.out) HB2.out)).mono ?_
            rintro e w13 ⟨D1, e1, rfl, hd1, hb⟩
            have HD1 := Aside0.mk hd1
            have HB3 := Aside0.mk hb
            refine ⟨_, rfl, ?_⟩
            refine hK.out _ _ ⟨(blk_cell (blk_below (blk_below (blk_below K0.out HB1.out) HB2.out) HB3.out) 0).trans rfl, (blk_cell (blk_below (blk_below (blk_below K0.out HB1.out) HB2.out) HB3.out) 1).trans rfl, (blk_cell (blk_below (blk_below (blk_below K0.out HB1.out) HB2.out) HB3.out) 2).trans rfl, (blk_cell (blk_below (blk_below (blk_below K0.out HB1.out) HB2.out) HB3.out) 3).trans rfl⟩ (fun hHeld => ?_)
            clear hK K hb
            refine norm_ (a' := ?_) ?_ ?_
            rotate_left
            · show Act.put _ (some 28) _ = _
              simp only [Act.put, List.setIfInBounds_toArray, List.set_cons_zero, List.set_cons_succ]
              rfl
            refine one_ (i := 4) (N := some 7) #[true, true, true, true, true, true, false, false] rfl rfl (by kernel_rfl) (by decide) (fun K hK => ?_)
            refine box_step ?hg (N := 7) ?hd (cs := #[.int .i64 0, .slice none 0 0, .int .i64 0, .slice none 0 0]) (t := 38) ?hr ?_; (case hd => rfl); (case hg => rfl); (case hr => first | (go_simp; done) | (go_simp; rfl))
            intro g4 hg4 w14 hbox hb
            have HX4 := Aside0.mk hbox
            have HB4 := Aside0.mk hb
            refine hK.out _ _ ⟨(blk_cell (blk_below (blk_below (blk_below (blk_below K0.out HB1.out) HB2.out) HB3.out) HB4.out) 0).trans rfl, (blk_cell (blk_below (blk_below (blk_below (blk_below K0.out HB1.out) HB2.out) HB3.out) HB4.out) 1).trans rfl, (blk_cell (blk_below (blk_below (blk_below (blk_below K0.out HB1.out) HB2.out) HB3.out) HB4.out) 2).trans rfl, (blk_cell (blk_below (blk_below (blk_below (blk_below K0.out HB1.out) HB2.out) HB3.out) HB4.out) 3).trans rfl⟩ (fun hHeld => ?_)
            clear hK K hb
            refine norm_ (a' := ?_) ?_ ?_
            rotate_left
            · show Act.put _ (some 7) _ = _
              simp only [Act.put, List.setIfInBounds_toArray, List.set_cons_zero, List.set_cons_succ]
              rfl
            have z1 := HB1.out.size
            have z2 := HB2.out.size
            have z3 := HB3.out.size
            have z4 := HB4.out.size
            have y4 := blk_lt HX4.out
            have y5 := blk_lt HX5.out
            have y0 := blk_lt K2.out
            refine hcont ⟨B1, d1, B3, d3, D1, e1, g4, g5⟩ _ ⟨⟨Kd.R_lower (Kd.R_below (Kd.R_below HO1.out HB3.out) HB4.out) (below_size (below_step KB.out HB1.out)), Kd.R_lower (Kd.R_below (Kd.R_below HO3.out HB3.out) HB4.out) (below_size (below_step KB.out HB1.out)), Kd.R_lower (Kd.R_below HD1.out HB4.out) (below_size (below_step (below_step KB.out HB1.out) HB2.out)), w12.heap.size, fun k hk => ((Kd.R_bound HO1.out).1 k hk).2.2.1, fun k hk => ?_⟩, HX4.out, (blk_below (blk_below (blk_below HX5.out HB2.out) HB3.out) HB4.out), (show g4 ≠ g5 by omega), (show w.heap.size + 3 ≤ g4 by omega), (show w.heap.size + 3 ≤ g5 by omega), (blk_below (blk_below (blk_below (blk_below K1.out HB1.out) HB2.out) HB3.out) HB4.out), (blk_below (blk_below (blk_below (blk_below K2.out HB1.out) HB2.out) HB3.out) HB4.out), (below_step (below_step (below_step (below_step KB.out HB1.out) HB2.out) HB3.out) HB4.out)⟩
            have := ((Kd.R_bound HD1.out).1 k hk).2.1
            omega
          · refine box_step ?hg (N := 7) ?hd (cs := #[.int .i64 0, .slice none 0 0, .int .i64 0, .slice none 0 0]) (t := 38) ?hr ?_; (case hd => rfl); (case hg => rfl); (case hr => first | (go_simp; done) | (go_simp; rfl))
            intro g4 hg4 w13 hbox hb
            have HX4 := Aside0.mk hbox
            have HB3 := Aside0.mk hb
            refine hK.out _ _ ⟨(blk_cell (blk_below (blk_below (blk_below K0.out HB1.out) HB2.out) HB3.out) 0).trans rfl, (blk_cell (blk_below (blk_below (blk_below K0.out HB1.out) HB2.out) HB3.out) 1).trans rfl, (blk_cell (blk_below (blk_below (blk_below K0.out HB1.out) HB2.out) HB3.out) 2).trans rfl, (blk_cell (blk_below (blk_below (blk_below K0.out HB1.out) HB2.out) HB3.out) 3).trans rfl⟩ (fun hHeld => ?_)
            clear hK K hb
            refine norm_ (a' := ?_) ?_ ?_
            rotate_left
            · show Act.put _ (some 7) _ = _
              simp only [Act.put, List.setIfInBounds_toArray, List.set_cons_zero, List.set_cons_succ]
              rfl
            refine one_ (i := 3) (N := some 28) #[true, true, true, true, true, true, false, false] rfl rfl (by kernel_rfl) (by decide) (fun K hK => ?_)
            refine goes_ Tryd.func40 (by kernel_rfl) rfl #[.agg #[.int .i64 x.q, .slice A1 x.ls.length c1, .int .i64 x.k, .slice A3 x.cs.length c3]] (by rfl) rfl rfl (by (try simp only [List.map_toArray, List.map_cons, List.map_nil]); first | done | rfl) ?_
            refine (HF.out _ (below_step (below_step (below_step KB.out HB1.out) HB2.out) HB3.out)).mono ?_
            rintro e w14 ⟨D1, e1, rfl, hd1, hb⟩
            have HD1 := Aside0.mk hd1
            have HB4 := Aside0.mk hb
            refine ⟨_, rfl, ?_⟩
            refine hK.out _ _ ⟨(blk_cell (blk_below (blk_below (blk_below (blk_below K0.out HB1.out) HB2.out) HB3.out) HB4.out) 0).trans rfl, (blk_cell (blk_below (blk_below (blk_below (blk_below K0.out HB1.out) HB2.out) HB3.out) HB4.out) 1).trans rfl, (blk_cell (blk_below (blk_below (blk_below (blk_below K0.out HB1.out) HB2.out) HB3.out) HB4.out) 2).trans rfl, (blk_cell (blk_below (blk_below (blk_below (blk_below K0.out HB1.out) HB2.out) HB3.out) HB4.out) 3).trans rfl⟩ (fun hHeld => ?_)
            clear hK K hb
            refine norm_ (a' := ?_) ?_ ?_
            rotate_left
            · show Act.put _ (some 28) _ = _
              simp only [Act.put, List.setIfInBounds_toArray, List.set_cons_zero, List.set_cons_succ]
              rfl
            have z1 := HB1.out.size
            have z2 := HB2.out.size
            have z3 := HB3.out.size
            have z4 := HB4.out.size
            have y4 := blk_lt HX4.out
            have y5 := blk_lt HX5.out
            have y0 := blk_lt K2.out
            refine hcont ⟨B1, d1, B3, d3, D1, e1, g4, g5⟩ _ ⟨⟨Kd.R_lower (Kd.R_below (Kd.R_below HO1.out HB3.out) HB4.out) (below_size (below_step KB.out HB1.out)), Kd.R_lower (Kd.R_below (Kd.R_below HO3.out HB3.out) HB4.out) (below_size (below_step KB.out HB1.out)), Kd.R_lower HD1.out (below_size (below_step (below_step (below_step KB.out HB1.out) HB2.out) HB3.out)), w12.heap.size, fun k hk => ((Kd.R_bound HO1.out).1 k hk).2.2.1, fun k hk => ?_⟩, (blk_below HX4.out HB4.out), (blk_below (blk_below (blk_below HX5.out HB2.out) HB3.out) HB4.out), (show g4 ≠ g5 by omega), (show w.heap.size + 3 ≤ g4 by omega), (show w.heap.size + 3 ≤ g5 by omega), (blk_below (blk_below (blk_below (blk_below K1.out HB1.out) HB2.out) HB3.out) HB4.out), (blk_below (blk_below (blk_below (blk_below K2.out HB1.out) HB2.out) HB3.out) HB4.out), (below_step (below_step (below_step (below_step KB.out HB1.out) HB2.out) HB3.out) HB4.out)⟩
            have := ((Kd.R_bound HD1.out).1 k hk).2.1
            omega
        · refine box_step ?hg (N := 7) ?hd (cs := #[.int .i64 0, .slice none 0 0, .int .i64 0, .slice none 0 0]) (t := 38) ?hr ?_; (case hd => rfl); (case hg => rfl); (case hr => first | (go_simp; done) | (go_simp; rfl))
          intro g4 hg4 w12 hbox hb
          have HX4 := Aside0.mk hbox
          have HB2 := Aside0.mk hb
          refine hK.out _ _ ⟨(blk_cell (blk_below (blk_below K0.out HB1.out) HB2.out) 0).trans rfl, (blk_cell (blk_below (blk_below K0.out HB1.out) HB2.out) 1).trans rfl, (blk_cell (blk_below (blk_below K0.out HB1.out) HB2.out) 2).trans rfl, (blk_cell (blk_below (blk_below K0.out HB1.out) HB2.out) 3).trans rfl⟩ (fun hHeld => ?_)
          clear hK K hb
          refine norm_ (a' := ?_) ?_ ?_
          rotate_left
          · show Act.put _ (some 7) _ = _
            simp only [Act.put, List.setIfInBounds_toArray, List.set_cons_zero, List.set_cons_succ]
            rfl
          refine one_ (i := 1) (N := some 26) #[true, true, true, false, true, true, false, false] rfl rfl (by kernel_rfl) (by decide) (fun K hK => ?_)
          refine goes_ Tryd.func39 (by kernel_rfl) rfl #[.agg #[.int .i64 x.q, .slice A1 x.ls.length c1, .int .i64 x.k, .slice A3 x.cs.length c3]] (by rfl) rfl rfl (by (try simp only [List.map_toArray, List.map_cons, List.map_nil]); first | done | rfl) ?_
          refine (HO.out _ (below_step (below_step KB.out HB1.out) HB2.out)).mono ?_
          rintro e w13 ⟨u1, u3, rfl, ho1, ho3, hb⟩
          obtain ⟨B1, d1, rfl⟩ := Kd.R_slice ho1
          obtain ⟨B3, d3, rfl⟩ := Kd.R_slice ho3
          have HO1 := Aside0.mk ho1
          have HO3 := Aside0.mk ho3
          have HB3 := Aside0.mk hb
          refine ⟨_, rfl, ?_⟩
          refine hK.out _ _ ⟨(blk_cell (blk_below (blk_below (blk_below K0.out HB1.out) HB2.out) HB3.out) 0).trans rfl, (blk_cell (blk_below (blk_below (blk_below K0.out HB1.out) HB2.out) HB3.out) 1).trans rfl, (blk_cell (blk_below (blk_below (blk_below K0.out HB1.out) HB2.out) HB3.out) 2).trans rfl, (blk_cell (blk_below (blk_below (blk_below K0.out HB1.out) HB2.out) HB3.out) 3).trans rfl⟩ (fun hHeld => ?_)
          clear hK K hb
          refine norm_ (a' := ?_) ?_ ?_
          rotate_left
          · show Act.put _ (some 26) _ = _
            simp only [Act.put, List.setIfInBounds_toArray, List.set_cons_zero, List.set_cons_succ]
            rfl
          refine one_ (i := 3) (N := some 28) #[true, true, true, true, true, true, false, false] rfl rfl (by kernel_rfl) (by decide) (fun K hK => ?_)
          refine goes_ Tryd.func40 (by kernel_rfl) rfl #[.agg #[.int .i64 x.q, .slice A1 x.ls.length c1, .int .i64 x.k, .slice A3 x.cs.length c3]] (by rfl) rfl rfl (by (try simp only [List.map_toArray, List.map_cons, List.map_nil]); first | done | rfl) ?_
          refine (HF.out _ (below_step (below_step (below_step KB.out HB1.out) HB2.out) HB3.out)).mono ?_
          rintro e w14 ⟨D1, e1, rfl, hd1, hb⟩
          have HD1 := Aside0.mk hd1
          have HB4 := Aside0.mk hb
          refine ⟨_, rfl, ?_⟩
          refine hK.out _ _ ⟨(blk_cell (blk_below (blk_below (blk_below (blk_below K0.out HB1.out) HB2.out) HB3.out) HB4.out) 0).trans rfl, (blk_cell (blk_below (blk_below (blk_below (blk_below K0.out HB1.out) HB2.out) HB3.out) HB4.out) 1).trans rfl, (blk_cell (blk_below (blk_below (blk_below (blk_below K0.out HB1.out) HB2.out) HB3.out) HB4.out) 2).trans rfl, (blk_cell (blk_below (blk_below (blk_below (blk_below K0.out HB1.out) HB2.out) HB3.out) HB4.out) 3).trans rfl⟩ (fun hHeld => ?_)
          clear hK K hb
          refine norm_ (a' := ?_) ?_ ?_
          rotate_left
          · show Act.put _ (some 28) _ = _
            simp only [Act.put, List.setIfInBounds_toArray, List.set_cons_zero, List.set_cons_succ]
            rfl
          have z1 := HB1.out.size
          have z2 := HB2.out.size
          have z3 := HB3.out.size
          have z4 := HB4.out.size
          have y4 := blk_lt HX4.out
          have y5 := blk_lt HX5.out
          have y0 := blk_lt K2.out
          refine hcont ⟨B1, d1, B3, d3, D1, e1, g4, g5⟩ _ ⟨⟨Kd.R_lower (Kd.R_below HO1.out HB4.out) (below_size (below_step (below_step KB.out HB1.out) HB2.out)), Kd.R_lower (Kd.R_below HO3.out HB4.out) (below_size (below_step (below_step KB.out HB1.out) HB2.out)), Kd.R_lower HD1.out (below_size (below_step (below_step (below_step KB.out HB1.out) HB2.out) HB3.out)), w13.heap.size, fun k hk => ((Kd.R_bound HO1.out).1 k hk).2.2.1, fun k hk => ?_⟩, (blk_below (blk_below HX4.out HB3.out) HB4.out), (blk_below (blk_below (blk_below HX5.out HB2.out) HB3.out) HB4.out), (show g4 ≠ g5 by omega), (show w.heap.size + 3 ≤ g4 by omega), (show w.heap.size + 3 ≤ g5 by omega), (blk_below (blk_below (blk_below (blk_below K1.out HB1.out) HB2.out) HB3.out) HB4.out), (blk_below (blk_below (blk_below (blk_below K2.out HB1.out) HB2.out) HB3.out) HB4.out), (below_step (below_step (below_step (below_step KB.out HB1.out) HB2.out) HB3.out) HB4.out)⟩
          have := ((Kd.R_bound HD1.out).1 k hk).2.1
          omega
    · intro s W hF
      obtain ⟨⟨hR1, hR3, hRD, N, hN1, hN2⟩, hp, hq, hpq, hpz, hqz, hb1, hb2, hB⟩ := hF
      obtain ⟨B1, d1, B3, d3, D1, e1, p, q⟩ := s
      refine norm_ (a' := ?_) ?_ ?_
      rotate_left
      · simp only [putAll, Act.put, List.setIfInBounds_toArray, List.set_cons_zero, List.set_cons_succ]
        rfl
      have p0 : W.cell? ⟨p, 0, none⟩ = some (.int .i64 0) := (blk_cell hp 0).trans rfl
      have p1 : W.cell? ⟨p, 1, none⟩ = some (.slice none 0 0) := (blk_cell hp 1).trans rfl
      have p2 : W.cell? ⟨p, 2, none⟩ = some (.int .i64 0) := (blk_cell hp 2).trans rfl
      have p3 : W.cell? ⟨p, 3, none⟩ = some (.slice none 0 0) := (blk_cell hp 3).trans rfl
      have pf0 := blk_frozen hp 0
      have pf1 := blk_frozen hp 1
      have pf2 := blk_frozen hp 2
      have pf3 := blk_frozen hp 3
      refine last_ (i := 6) (N := none) #[true, true, true, true, true, true, true, false] rfl rfl (by kernel_rfl) (by decide) (fun K hK => ?_)
      refine skip_ (w1 := put4_ W p (.int .i64 x.q) (.slice B1 x.ls.length d1) (.int .i64 x.k) (.slice B3 x.cs.length d3)) (by rfl) rfl (by go_simp; rfl) ?_
      refine hK.out _ _ ?_
      clear hK K p0 p1 p2 p3 pf0 pf1 pf2 pf3
      have hp' := put4_blk (a := .int .i64 x.q) (b := .slice B1 x.ls.length d1) (c := .int .i64 x.k) (d := .slice B3 x.cs.length d3) hp
      have hq' := put4_off (g := p) (a := .int .i64 x.q) (b := .slice B1 x.ls.length d1) (c := .int .i64 x.k) (d := .slice B3 x.cs.length d3) hq (Ne.symm hpq)
      have hb1' := put4_off (g := p) (a := .int .i64 x.q) (b := .slice B1 x.ls.length d1) (c := .int .i64 x.k) (d := .slice B3 x.cs.length d3) hb1 (show w.heap.size + 1 ≠ p by dsimp only at hpz; omega)
      have hb2' := put4_off (g := p) (a := .int .i64 x.q) (b := .slice B1 x.ls.length d1) (c := .int .i64 x.k) (d := .slice B3 x.cs.length d3) hb2 (show w.heap.size + 2 ≠ p by dsimp only at hpz; omega)
      have hR1' := put4_R (a := .int .i64 x.q) (b := .slice B1 x.ls.length d1) (c := .int .i64 x.k) (d := .slice B3 x.cs.length d3) hR1 hp (by decide)
      have hR3' := put4_R (a := .int .i64 x.q) (b := .slice B1 x.ls.length d1) (c := .int .i64 x.k) (d := .slice B3 x.cs.length d3) hR3 hp (by decide)
      have hRD' := put4_R (a := .int .i64 x.q) (b := .slice B1 x.ls.length d1) (c := .int .i64 x.k) (d := .slice B3 x.cs.length d3) hRD hp (by decide)
      have hB' := put4_below (a := .int .i64 x.q) (b := .slice B1 x.ls.length d1) (c := .int .i64 x.k) (d := .slice B3 x.cs.length d3) hB (show w.heap.size ≤ p by dsimp only at hpz; omega)
      generalize put4_ W p (.int .i64 x.q) (.slice B1 x.ls.length d1) (.int .i64 x.k) (.slice B3 x.cs.length d3) = W1 at hp' hq' hb1' hb2' hR1' hR3' hRD' hB' ⊢
      clear hp hq hb1 hb2 hR1 hR3 hRD hB
      dsimp only at hpq hpz hqz hN1 hN2 hp' hq' hb1' hb2' hR1' hR3' hRD' hB'
      have p0 : W1.cell? ⟨q, 0, none⟩ = some (.int .i64 0) := (blk_cell hq' 0).trans rfl
      have p1 : W1.cell? ⟨q, 1, none⟩ = some (.slice none 0 0) := (blk_cell hq' 1).trans rfl
      have p2 : W1.cell? ⟨q, 2, none⟩ = some (.int .i64 0) := (blk_cell hq' 2).trans rfl
      have p3 : W1.cell? ⟨q, 3, none⟩ = some (.slice none 0 0) := (blk_cell hq' 3).trans rfl
      have pf0 := blk_frozen hq' 0
      have pf1 := blk_frozen hq' 1
      have pf2 := blk_frozen hq' 2
      have pf3 := blk_frozen hq' 3
      refine last_ (i := 7) (N := none) #[true, true, true, true, true, true, true, true] rfl rfl (by kernel_rfl) (by decide) (fun K hK => ?_)
      refine skip_ (w1 := put4_ W1 q (.int .i64 x.q) (.slice D1 x.ls.length e1) (.int .i64 x.k) (.slice none 0 0)) (by rfl) rfl (by go_simp; rfl) ?_
      refine hK.out _ _ ?_
      clear hK K p0 p1 p2 p3 pf0 pf1 pf2 pf3
      refine done_ (by kernel_rfl) ?_
      have hq := put4_blk (a := .int .i64 x.q) (b := .slice D1 x.ls.length e1) (c := .int .i64 x.k) (d := .slice none 0 0) hq'
      have hp := put4_off (g := q) (a := .int .i64 x.q) (b := .slice D1 x.ls.length e1) (c := .int .i64 x.k) (d := .slice none 0 0) hp' hpq
      have hb1 := put4_off (g := q) (a := .int .i64 x.q) (b := .slice D1 x.ls.length e1) (c := .int .i64 x.k) (d := .slice none 0 0) hb1' (show w.heap.size + 1 ≠ q by omega)
      have hb2 := put4_off (g := q) (a := .int .i64 x.q) (b := .slice D1 x.ls.length e1) (c := .int .i64 x.k) (d := .slice none 0 0) hb2' (show w.heap.size + 2 ≠ q by omega)
      have hR1 := put4_R (a := .int .i64 x.q) (b := .slice D1 x.ls.length e1) (c := .int .i64 x.k) (d := .slice none 0 0) hR1' hq' (by decide)
      have hR3 := put4_R (a := .int .i64 x.q) (b := .slice D1 x.ls.length e1) (c := .int .i64 x.k) (d := .slice none 0 0) hR3' hq' (by decide)
      have hRD := put4_R (a := .int .i64 x.q) (b := .slice D1 x.ls.length e1) (c := .int .i64 x.k) (d := .slice none 0 0) hRD' hq' (by decide)
      have hB := put4_below (a := .int .i64 x.q) (b := .slice D1 x.ls.length e1) (c := .int .i64 x.k) (d := .slice none 0 0) hB' (show w.heap.size ≤ q by omega)
      generalize put4_ W1 q (.int .i64 x.q) (.slice D1 x.ls.length e1) (.int .i64 x.k) (.slice none 0 0) = V at hp hq hb1 hb2 hR1 hR3 hRD hB ⊢
      clear hp' hq' hb1' hb2' hR1' hR3' hRD' hB' HO HF
      have hS := Aside0.mk (show Sp2_ w x ⟨B1, d1, B3, d3, D1, e1, p, q⟩ (.slice B3 x.cs.length d3) (.int .i64 x.k) (.slice none 0 0) V from ⟨hp, hq, hb1, hb2, ⟨hR1, hR3, hRD, N, hN1, hN2⟩, hB⟩)
      have r2 := cut_hm_ (P := Tryd.prog) 36 71 .i64 .i64 Tryd.underlying36 infoC_.choose_spec.1 B3 x.cs.length d3 (n : Int) (by omega) (by omega) (Kd.R_reads' hR3).2.1
      rw [Int.toNat_natCast] at r2
      have g3 : V.cell? ⟨p, 3, none⟩ = some (.slice B3 x.cs.length d3) := (blk_cell hp 3).trans rfl
      have g4 : V.cell? ⟨q, 3, none⟩ = some (.slice none 0 0) := (blk_cell hq 3).trans rfl
      have g5 := blk_frozen hp 3
      have g6 := blk_frozen hq 3
      have g7 : ∀ u, (V.setCell ⟨q, 3, none⟩ u).cell? ⟨p, 3, none⟩ = some (.slice B3 x.cs.length d3) := fun u => (cell_far (p := ⟨q, 3, none⟩) hpq u).trans g3
      have g8 : ∀ u, (V.setCell ⟨q, 3, none⟩ u).frozen? ⟨p, 3, none⟩ = false := fun u => blk_frozen (blk_off_ hp hpq) 3
      have hR3' := Aside0.mk hR3
      clear hp hq hb1 hb2 hR1 hR3 hRD hB hN1 hN2
      by_cases hne : n = x.cs.length
      · obtain ⟨X, cx, r1, _, _⟩ := dropC_ B3 x.cs d3 n hnl (Kd.R_reads' hR3'.out).2.1
        rw [show x.cs.length - n = 0 by omega] at r1
        have HNE := Aside0.mk hne
        clear hne
        go_upto_region 7 with (fail)
        have hS2 := (((hS.out.move hpq hpz hqz (.slice X 0 cx)).2.1).move hpq hpz hqz (.slice B3 n n)).1
        dsimp only at hS2
        generalize (V.setCell ⟨q, 3, none⟩ (.slice X 0 cx)).setCell ⟨p, 3, none⟩ (.slice B3 n n) = V1 at hS2 ⊢
        clear hS g3 g4 g5 g6 g7 g8 r1 r2
        have hS := (((hS2.move hpq hpz hqz (.int .i64 0)).2.2).move hpq hpz hqz (.slice none 0 0)).2.1
        dsimp only at hS
        have g4 : V1.cell? ⟨q, 3, none⟩ = some (.slice X 0 cx) := (blk_cell hS2.2.1 3).trans rfl
        have g9 : V1.cell? ⟨q, 2, none⟩ = some (.int .i64 x.k) := (blk_cell hS2.2.1 2).trans rfl
        have g5 := blk_frozen hS2.2.1 3
        have g6 := blk_frozen hS2.2.1 2
        clear hS2
        go_upto_region 8 with (fail)
        generalize (V1.setCell ⟨q, 2, none⟩ (.int .i64 0)).setCell ⟨q, 3, none⟩ (.slice none 0 0) = V2 at hS ⊢
        clear g4 g9 g5 g6
        obtain ⟨k1, k2, k3, k4, ⟨k5, k6, k7, k8⟩, k9⟩ := hS
        have v0 : V2.cell? ⟨p, 0, none⟩ = some _ := (blk_cell k1 0).trans rfl
        have v1 : V2.cell? ⟨p, 1, none⟩ = some _ := (blk_cell k1 1).trans rfl
        have v2 : V2.cell? ⟨p, 2, none⟩ = some _ := (blk_cell k1 2).trans rfl
        have v3 : V2.cell? ⟨p, 3, none⟩ = some _ := (blk_cell k1 3).trans rfl
        have z0 : V2.cell? ⟨q, 0, none⟩ = some _ := (blk_cell k2 0).trans rfl
        have z1 : V2.cell? ⟨q, 1, none⟩ = some _ := (blk_cell k2 1).trans rfl
        have z2 : V2.cell? ⟨q, 2, none⟩ = some _ := (blk_cell k2 2).trans rfl
        have z3 : V2.cell? ⟨q, 3, none⟩ = some _ := (blk_cell k2 3).trans rfl
        have b0 : V2.cell? ⟨w.heap.size + 1, 0, none⟩ = some (.int .i64 0) := (blk_cell k3 0).trans rfl
        have be0 := blk_frozen k3 0
        have b1 : V2.cell? ⟨w.heap.size + 1, 1, none⟩ = some (.slice none 0 0) := (blk_cell k3 1).trans rfl
        have be1 := blk_frozen k3 1
        have b2 : V2.cell? ⟨w.heap.size + 1, 2, none⟩ = some (.int .i64 0) := (blk_cell k3 2).trans rfl
        have be2 := blk_frozen k3 2
        have b3 : V2.cell? ⟨w.heap.size + 1, 3, none⟩ = some (.slice none 0 0) := (blk_cell k3 3).trans rfl
        have be3 := blk_frozen k3 3
        have m0 : V2.cell? ⟨w.heap.size + 2, 0, none⟩ = some (.int .i64 0) := (blk_cell k4 0).trans rfl
        have me0 := blk_frozen k4 0
        have m1 : V2.cell? ⟨w.heap.size + 2, 1, none⟩ = some (.slice none 0 0) := (blk_cell k4 1).trans rfl
        have me1 := blk_frozen k4 1
        have m2 : V2.cell? ⟨w.heap.size + 2, 2, none⟩ = some (.int .i64 0) := (blk_cell k4 2).trans rfl
        have me2 := blk_frozen k4 2
        have m3 : V2.cell? ⟨w.heap.size + 2, 3, none⟩ = some (.slice none 0 0) := (blk_cell k4 3).trans rfl
        have me3 := blk_frozen k4 3
        have J1 := Aside0.mk k1
        have J2 := Aside0.mk k2
        have J3 := Aside0.mk k3
        have J4 := Aside0.mk k4
        have J5 := Aside0.mk k5
        have J6 := Aside0.mk k6
        have J7 := Aside0.mk k7
        have J9 := Aside0.mk k9
        have hN := k8
        clear k1 k2 k3 k4 k5 k6 k7 k8 k9
        refine start_ (n := 5) (S := fun W' => (W'.cell? ⟨p, 0, none⟩ = some (.int .i64 x.q) ∧ W'.cell? ⟨p, 1, none⟩ = some (.slice B1 x.ls.length d1) ∧ W'.cell? ⟨p, 2, none⟩ = some (.int .i64 x.k) ∧ W'.cell? ⟨p, 3, none⟩ = some (.slice B3 n n)) ∧ (W'.cell? ⟨q, 0, none⟩ = some (.int .i64 x.q) ∧ W'.cell? ⟨q, 1, none⟩ = some (.slice D1 x.ls.length e1) ∧ W'.cell? ⟨q, 2, none⟩ = some (.int .i64 0) ∧ W'.cell? ⟨q, 3, none⟩ = some (.slice none 0 0))) (ds := [3, 4]) #[false, false, false, false, false] (by kernel_rfl) rfl rfl ⟨⟨v0, v1, v2, v3⟩, ⟨z0, z1, z2, z3⟩⟩ (fun hHeld => ?_)
        refine take_ (i := 0) (N := some 46) (v := ?_) (a' := ?_) #[true, false, false, false, false] rfl rfl (by kernel_rfl) (fun _ _ _ h => h) (Or.inl ⟨by rfl, ?_⟩) hHeld ?_ ?_
        rotate_left
        · rintro w' ⟨⟨s0, s1, s2, s3⟩, ⟨t0, t1, t2, t3⟩⟩
          go_simp
          with_reducible rfl
        rotate_left
        · simp only [Act.put, List.setIfInBounds_toArray, List.set_cons_zero, List.set_cons_succ]
          rfl
        refine take_ (i := 1) (N := some 47) (v := ?_) (a' := ?_) #[true, true, false, false, false] rfl rfl (by kernel_rfl) (fun _ _ _ h => h) (Or.inl ⟨by rfl, ?_⟩) hHeld ?_ ?_
        rotate_left
        · rintro w' ⟨⟨s0, s1, s2, s3⟩, ⟨t0, t1, t2, t3⟩⟩
          go_simp
          with_reducible rfl
        rotate_left
        · simp only [Act.put, List.setIfInBounds_toArray, List.set_cons_zero, List.set_cons_succ]
          rfl
        refine one_ (i := 2) (N := none) #[true, true, true, false, false] rfl rfl (by kernel_rfl) (by decide) (fun K hK => ?_)
        refine skip_ (w1 := put4_ V2.drew (w.heap.size + 1) (.int .i64 x.q) (.slice B1 x.ls.length d1) (.int .i64 x.k) (.slice B3 n n)) (by rfl) rfl (by go_simp; rfl) ?_
        have L1 := put4_off (g := w.heap.size + 1) (a := .int .i64 x.q) (b := .slice B1 x.ls.length d1) (c := .int .i64 x.k) (d := .slice B3 n n) (show V2.drew.heap[p]? = some _ from J1.out) (by omega)
        have L2 := put4_off (g := w.heap.size + 1) (a := .int .i64 x.q) (b := .slice B1 x.ls.length d1) (c := .int .i64 x.k) (d := .slice B3 n n) (show V2.drew.heap[q]? = some _ from J2.out) (by omega)
        have L4 := put4_off (g := w.heap.size + 1) (a := .int .i64 x.q) (b := .slice B1 x.ls.length d1) (c := .int .i64 x.k) (d := .slice B3 n n) (show V2.drew.heap[w.heap.size + 2]? = some _ from J4.out) (by omega)
        refine hK.out _ _ ⟨⟨(blk_cell L1 0).trans rfl, (blk_cell L1 1).trans rfl, (blk_cell L1 2).trans rfl, (blk_cell L1 3).trans rfl⟩, ⟨(blk_cell L2 0).trans rfl, (blk_cell L2 1).trans rfl, (blk_cell L2 2).trans rfl, (blk_cell L2 3).trans rfl⟩⟩ (fun hHeld => ?_)
        clear hK K hHeld L1 L2
        clear v0 v1 v2 v3 z0 z1 z2 z3 b0 be0 b1 be1 b2 be2 b3 be3 m0 me0 m1 me1 m2 me2 m3 me3
        have m0 := (blk_cell L4 0).trans rfl
        have me0 := blk_frozen L4 0
        have m1 := (blk_cell L4 1).trans rfl
        have me1 := blk_frozen L4 1
        have m2 := (blk_cell L4 2).trans rfl
        have me2 := blk_frozen L4 2
        have m3 := (blk_cell L4 3).trans rfl
        have me3 := blk_frozen L4 3
        refine last_ (i := 3) (N := none) #[true, true, true, true, false] rfl rfl (by kernel_rfl) (by decide) (fun K hK => ?_)
        refine skip_ (w1 := put4_ (put4_ V2.drew (w.heap.size + 1) (.int .i64 x.q) (.slice B1 x.ls.length d1) (.int .i64 x.k) (.slice B3 n n)) (w.heap.size + 2) (.int .i64 x.q) (.slice D1 x.ls.length e1) (.int .i64 0) (.slice none 0 0)) (by rfl) rfl (by go_simp; rfl) ?_
        refine hK.out _ _ ?_
        clear hK K
        refine pure_ (i := 4) (N := some 6) (v := ?_) (a' := ?_) #[true, true, true, true, true] rfl rfl (by kernel_rfl) (fun _ _ _ h => h) (Or.inl ⟨by rfl, ?_⟩) ?_ ?_
        rotate_left
        · intro w'
          go_simp
          with_reducible rfl
        rotate_left
        · simp only [Act.put, List.setIfInBounds_toArray, List.set_cons_zero, List.set_cons_succ]
          rfl
        refine done_ (by kernel_rfl) ?_
        go_wp2
        refine bodyPost_ret (results_list (rs := [.cell 4 38, .cell 5 38, .tmp 6]) rfl (by simp) (.cell (w.heap.size + 1) 38 #[.int .i64 x.q, .slice B1 x.ls.length d1, .int .i64 x.k, .slice B3 n n] (0, 0) _ rfl (put4_off (put4_blk J3.out) (by omega)) Tryd.underlying38 rfl (by kernel_rfl) (.cell (w.heap.size + 2) 38 #[.int .i64 x.q, .slice D1 x.ls.length e1, .int .i64 0, .slice none 0 0] (0, 0) _ rfl (put4_blk (put4_off J4.out (by omega))) Tryd.underlying38 rfl (by kernel_rfl) (.tmp .nil)))) rfl ?_
        rw [HR.out]
        obtain ⟨N, hN1, hN2⟩ := hN
        have eB : splitB x n = ⟨x.q, x.ls, 0, []⟩ := by unfold splitB; rw [if_pos HNE.out]
        exact split_end_ hnl (by rw [eB]; exact ⟨rfl, rfl⟩) (by rw [eB]) (by rw [eB]; rfl) (put4_WrI (put4_WrI (Wr.of_R (Kd.R_drew J5.out)) (blk_drew J3.out) (by decide)) (put4_off (blk_drew J4.out) (by omega)) (by decide)) (put4_WrC (put4_WrC (Wr_take_ (Kd.R_drew J6.out) hnl) (blk_drew J3.out) (by decide)) (put4_off (blk_drew J4.out) (by omega)) (by decide))
          (put4_WrI (put4_WrI (Wr.of_R (Kd.R_drew J7.out)) (blk_drew J3.out) (by decide)) (put4_off (blk_drew J4.out) (by omega)) (by decide)) (by rw [eB]; exact Wr_nil _ _ _ _) (apart_blocks_ hN1 hN2) (by intro a b i j h1 h2 _ hj; omega) (put4_below (put4_below (below_drew1 J9.out) (by omega)) (by omega))
      · obtain ⟨g, cap, ec, hgb, _, _⟩ := Kd.R_form hR3'.out (by omega)
        injection ec with ec1 _ ec2
        subst ec1
        subst ec2
        have r1 := cut_from (P := Tryd.prog) 36 71 .i64 Tryd.underlying36 infoC_.choose_spec.1 3 infoC_.choose_spec.2 (some ⟨g, 0, none⟩) x.cs.length d3 (n : Int) (by omega) (by omega)
        rw [Int.toNat_natCast, if_neg (by have := (Kd.R_reads' hR3'.out).2.1; omega)] at r1
        obtain ⟨m, hmm⟩ : ∃ m, x.cs.length - n = m + 1 := ⟨x.cs.length - n - 1, by omega⟩
        have r1' : ∀ W : World, (Instr.slice 36 (.slice (some ⟨g, 0, none⟩) x.cs.length d3) (some (.int .i64 (n : Int))) none none).run Tryd.prog W = .ok (.slice (some ⟨g, n * 3, none⟩) (m + 1) (d3 - n)) W := fun W => by
          rw [r1 W, hmm]
          show Result.ok (Value.slice (some ((⟨g, 0, none⟩ : Addr).add (n * 3))) _ _) W = _
          rw [add_plain]
        clear r1
        have HNE := Aside0.mk hne
        clear hne
        have m_0 : (((m : Int) + 1) == 0) = false := beq_eq_false_iff_ne.mpr (by omega)
        go_upto_region 8 with (fail)
        have hS2 := (((hS.out.move hpq hpz hqz (.slice (some ⟨g, n * 3, none⟩) (m + 1) (d3 - n))).2.1).move hpq hpz hqz (.slice (some ⟨g, 0, none⟩) n n)).1
        dsimp only at hS2
        generalize (V.setCell ⟨q, 3, none⟩ (.slice (some ⟨g, n * 3, none⟩) (m + 1) (d3 - n))).setCell ⟨p, 3, none⟩ (.slice (some ⟨g, 0, none⟩) n n) = V2 at hS2 ⊢
        clear hS g3 g4 g5 g6 g7 g8 r1' r2
        have hS := hS2
        clear hS2
        obtain ⟨k1, k2, k3, k4, ⟨k5, k6, k7, k8⟩, k9⟩ := hS
        have v0 : V2.cell? ⟨p, 0, none⟩ = some _ := (blk_cell k1 0).trans rfl
        have v1 : V2.cell? ⟨p, 1, none⟩ = some _ := (blk_cell k1 1).trans rfl
        have v2 : V2.cell? ⟨p, 2, none⟩ = some _ := (blk_cell k1 2).trans rfl
        have v3 : V2.cell? ⟨p, 3, none⟩ = some _ := (blk_cell k1 3).trans rfl
        have z0 : V2.cell? ⟨q, 0, none⟩ = some _ := (blk_cell k2 0).trans rfl
        have z1 : V2.cell? ⟨q, 1, none⟩ = some _ := (blk_cell k2 1).trans rfl
        have z2 : V2.cell? ⟨q, 2, none⟩ = some _ := (blk_cell k2 2).trans rfl
        have z3 : V2.cell? ⟨q, 3, none⟩ = some _ := (blk_cell k2 3).trans rfl
        have b0 : V2.cell? ⟨w.heap.size + 1, 0, none⟩ = some (.int .i64 0) := (blk_cell k3 0).trans rfl
        have be0 := blk_frozen k3 0
        have b1 : V2.cell? ⟨w.heap.size + 1, 1, none⟩ = some (.slice none 0 0) := (blk_cell k3 1).trans rfl
        have be1 := blk_frozen k3 1
        have b2 : V2.cell? ⟨w.heap.size + 1, 2, none⟩ = some (.int .i64 0) := (blk_cell k3 2).trans rfl
        have be2 := blk_frozen k3 2
        have b3 : V2.cell? ⟨w.heap.size + 1, 3, none⟩ = some (.slice none 0 0) := (blk_cell k3 3).trans rfl
        have be3 := blk_frozen k3 3
        have m0 : V2.cell? ⟨w.heap.size + 2, 0, none⟩ = some (.int .i64 0) := (blk_cell k4 0).trans rfl
        have me0 := blk_frozen k4 0
        have m1 : V2.cell? ⟨w.heap.size + 2, 1, none⟩ = some (.slice none 0 0) := (blk_cell k4 1).trans rfl
        have me1 := blk_frozen k4 1
        have m2 : V2.cell? ⟨w.heap.size + 2, 2, none⟩ = some (.int .i64 0) := (blk_cell k4 2).trans rfl
        have me2 := blk_frozen k4 2
        have m3 : V2.cell? ⟨w.heap.size + 2, 3, none⟩ = some (.slice none 0 0) := (blk_cell k4 3).trans rfl
        have me3 := blk_frozen k4 3
        have J1 := Aside0.mk k1
        have J2 := Aside0.mk k2
        have J3 := Aside0.mk k3
        have J4 := Aside0.mk k4
        have J5 := Aside0.mk k5
        have J6 := Aside0.mk k6
        have J7 := Aside0.mk k7
        have J9 := Aside0.mk k9
        have hN := k8
        clear k1 k2 k3 k4 k5 k6 k7 k8 k9
        refine start_ (n := 5) (S := fun W' => (W'.cell? ⟨p, 0, none⟩ = some (.int .i64 x.q) ∧ W'.cell? ⟨p, 1, none⟩ = some (.slice B1 x.ls.length d1) ∧ W'.cell? ⟨p, 2, none⟩ = some (.int .i64 x.k) ∧ W'.cell? ⟨p, 3, none⟩ = some (.slice (some ⟨g, 0, none⟩) n n)) ∧ (W'.cell? ⟨q, 0, none⟩ = some (.int .i64 x.q) ∧ W'.cell? ⟨q, 1, none⟩ = some (.slice D1 x.ls.length e1) ∧ W'.cell? ⟨q, 2, none⟩ = some (.int .i64 x.k) ∧ W'.cell? ⟨q, 3, none⟩ = some (.slice (some ⟨g, n * 3, none⟩) (m + 1) (d3 - n)))) (ds := [3, 4]) #[false, false, false, false, false] (by kernel_rfl) rfl rfl ⟨⟨v0, v1, v2, v3⟩, ⟨z0, z1, z2, z3⟩⟩ (fun hHeld => ?_)
        refine take_ (i := 0) (N := some 46) (v := ?_) (a' := ?_) #[true, false, false, false, false] rfl rfl (by kernel_rfl) (fun _ _ _ h => h) (Or.inl ⟨by rfl, ?_⟩) hHeld ?_ ?_
        rotate_left
        · rintro w' ⟨⟨s0, s1, s2, s3⟩, ⟨t0, t1, t2, t3⟩⟩
          go_simp
          with_reducible rfl
        rotate_left
        · simp only [Act.put, List.setIfInBounds_toArray, List.set_cons_zero, List.set_cons_succ]
          rfl
        refine take_ (i := 1) (N := some 47) (v := ?_) (a' := ?_) #[true, true, false, false, false] rfl rfl (by kernel_rfl) (fun _ _ _ h => h) (Or.inl ⟨by rfl, ?_⟩) hHeld ?_ ?_
        rotate_left
        · rintro w' ⟨⟨s0, s1, s2, s3⟩, ⟨t0, t1, t2, t3⟩⟩
          go_simp
          with_reducible rfl
        rotate_left
        · simp only [Act.put, List.setIfInBounds_toArray, List.set_cons_zero, List.set_cons_succ]
          rfl
        refine one_ (i := 2) (N := none) #[true, true, true, false, false] rfl rfl (by kernel_rfl) (by decide) (fun K hK => ?_)
        refine skip_ (w1 := put4_ V2.drew (w.heap.size + 1) (.int .i64 x.q) (.slice B1 x.ls.length d1) (.int .i64 x.k) (.slice (some ⟨g, 0, none⟩) n n)) (by rfl) rfl (by go_simp; rfl) ?_
        have L1 := put4_off (g := w.heap.size + 1) (a := .int .i64 x.q) (b := .slice B1 x.ls.length d1) (c := .int .i64 x.k) (d := .slice (some ⟨g, 0, none⟩) n n) (show V2.drew.heap[p]? = some _ from J1.out) (by omega)
        have L2 := put4_off (g := w.heap.size + 1) (a := .int .i64 x.q) (b := .slice B1 x.ls.length d1) (c := .int .i64 x.k) (d := .slice (some ⟨g, 0, none⟩) n n) (show V2.drew.heap[q]? = some _ from J2.out) (by omega)
        have L4 := put4_off (g := w.heap.size + 1) (a := .int .i64 x.q) (b := .slice B1 x.ls.length d1) (c := .int .i64 x.k) (d := .slice (some ⟨g, 0, none⟩) n n) (show V2.drew.heap[w.heap.size + 2]? = some _ from J4.out) (by omega)
        refine hK.out _ _ ⟨⟨(blk_cell L1 0).trans rfl, (blk_cell L1 1).trans rfl, (blk_cell L1 2).trans rfl, (blk_cell L1 3).trans rfl⟩, ⟨(blk_cell L2 0).trans rfl, (blk_cell L2 1).trans rfl, (blk_cell L2 2).trans rfl, (blk_cell L2 3).trans rfl⟩⟩ (fun hHeld => ?_)
        clear hK K hHeld L1 L2
        clear v0 v1 v2 v3 z0 z1 z2 z3 b0 be0 b1 be1 b2 be2 b3 be3 m0 me0 m1 me1 m2 me2 m3 me3
        have m0 := (blk_cell L4 0).trans rfl
        have me0 := blk_frozen L4 0
        have m1 := (blk_cell L4 1).trans rfl
        have me1 := blk_frozen L4 1
        have m2 := (blk_cell L4 2).trans rfl
        have me2 := blk_frozen L4 2
        have m3 := (blk_cell L4 3).trans rfl
        have me3 := blk_frozen L4 3
        refine last_ (i := 3) (N := none) #[true, true, true, true, false] rfl rfl (by kernel_rfl) (by decide) (fun K hK => ?_)
        refine skip_ (w1 := put4_ (put4_ V2.drew (w.heap.size + 1) (.int .i64 x.q) (.slice B1 x.ls.length d1) (.int .i64 x.k) (.slice (some ⟨g, 0, none⟩) n n)) (w.heap.size + 2) (.int .i64 x.q) (.slice D1 x.ls.length e1) (.int .i64 x.k) (.slice (some ⟨g, n * 3, none⟩) (m + 1) (d3 - n))) (by rfl) rfl (by go_simp; rfl) ?_
        refine hK.out _ _ ?_
        clear hK K
        refine pure_ (i := 4) (N := some 6) (v := ?_) (a' := ?_) #[true, true, true, true, true] rfl rfl (by kernel_rfl) (fun _ _ _ h => h) (Or.inl ⟨by rfl, ?_⟩) ?_ ?_
        rotate_left
        · intro w'
          go_simp
          with_reducible rfl
        rotate_left
        · simp only [Act.put, List.setIfInBounds_toArray, List.set_cons_zero, List.set_cons_succ]
          rfl
        refine done_ (by kernel_rfl) ?_
        go_wp2
        refine bodyPost_ret (results_list (rs := [.cell 4 38, .cell 5 38, .tmp 6]) rfl (by simp) (.cell (w.heap.size + 1) 38 #[.int .i64 x.q, .slice B1 x.ls.length d1, .int .i64 x.k, .slice (some ⟨g, 0, none⟩) n n] (0, 0) _ rfl (put4_off (put4_blk J3.out) (by omega)) Tryd.underlying38 rfl (by kernel_rfl) (.cell (w.heap.size + 2) 38 #[.int .i64 x.q, .slice D1 x.ls.length e1, .int .i64 x.k, .slice (some ⟨g, n * 3, none⟩) (m + 1) (d3 - n)] (0, 0) _ rfl (put4_blk (put4_off J4.out (by omega))) Tryd.underlying38 rfl (by kernel_rfl) (.tmp .nil)))) rfl ?_
        rw [HR.out]
        obtain ⟨N, hN1, hN2⟩ := hN
        have eB : splitB x n = { x with cs := x.cs.drop n } := by unfold splitB; rw [if_neg HNE.out]
        have wd := Wr_drop_ (Kd.R_drew J6.out) (show n < x.cs.length by have := HNE.out; omega)
        rw [hmm] at wd
        exact split_end_ hnl (by rw [eB]; exact ⟨rfl, rfl⟩) (by rw [eB]) (by rw [eB]; show (x.cs.drop n).length = _; rw [List.length_drop, hmm]) (put4_WrI (put4_WrI (Wr.of_R (Kd.R_drew J5.out)) (blk_drew J3.out) (by decide)) (put4_off (blk_drew J4.out) (by omega)) (by decide)) (put4_WrC (put4_WrC (Wr_take_ (Kd.R_drew J6.out) hnl) (blk_drew J3.out) (by decide)) (put4_off (blk_drew J4.out) (by omega)) (by decide))
          (put4_WrI (put4_WrI (Wr.of_R (Kd.R_drew J7.out)) (blk_drew J3.out) (by decide)) (put4_off (blk_drew J4.out) (by omega)) (by decide)) (by rw [eB]; exact put4_WrC (put4_WrC wd (blk_drew J3.out) (by decide)) (put4_off (blk_drew J4.out) (by omega)) (by decide)) (apart_blocks_ hN1 hN2)
          (by
            intro a b i j ea eb hi hj e
            cases ea
            cases eb
            have e2 := congrArg Addr.off e
            rw [add_plain] at e2
            have e3 : ((⟨g, n * 3, none⟩ : Addr).add j).off = n * 3 + j := by unfold Addr.add; split <;> simp_all
            rw [e3] at e2
            dsimp only at e2
            omega) (put4_below (put4_below (below_drew1 J9.out) (by omega)) (by omega))
end Go.Proofs.YtgdpknmffohhaaaDoor.Pl

/- The examples of chapter 06. -/
namespace Go.Proofs.YtgdpknmffohhaaaDoor.Pl
open Go.RowKit Go.Lib Go.Proofs.YtgdpknmffohhaaaDoorW.PrintWords Go.Proofs.YtgdpknmffohhaaaDoorW.PrintLast Go.Proofs.YtgdpknmffohhaaaDoorW.PrintMore
set_option linter.unusedVariables false
theorem two_cells_ {W : World} {g : Nat} {a b : S71} (h : W.heap[g]? = some (.cells #[.int .i32 a.f0, .int .i64 a.f1, .string a.f2, .int .i32 b.f0, .int .i64 b.f1, .string b.f2] 71 (0, 0))) : Kd.C k71 W (some ⟨g, 0, none⟩) 2 [a, b] := by
  refine ⟨rfl, by decide, fun _ => ⟨_, rfl, fun j p hj => ?_⟩⟩
  match j with
  | 0 =>
    cases hj
    refine ⟨[.int .i32 a.f0, .int .i64 a.f1, .string a.f2], rfl, k71_mk _ _, fun i u hu => ?_⟩
    match i with
    | 0 => cases hu; rw [add_plain]; exact (blk_cell h 0).trans rfl
    | 1 => cases hu; rw [add_plain]; exact (blk_cell h 1).trans rfl
    | 2 => cases hu; rw [add_plain]; exact (blk_cell h 2).trans rfl
    | i + 3 => cases hu
  | 1 =>
    cases hj
    refine ⟨[.int .i32 b.f0, .int .i64 b.f1, .string b.f2], rfl, k71_mk _ _, fun i u hu => ?_⟩
    match i with
    | 0 => cases hu; rw [add_plain]; exact (blk_cell h 3).trans rfl
    | 1 => cases hu; rw [add_plain]; exact (blk_cell h 4).trans rfl
    | 2 => cases hu; rw [add_plain]; exact (blk_cell h 5).trans rfl
    | i + 3 => cases hu
  | j + 2 => simp at hj
theorem ints_blk_ {W : World} {g : Nat} {xs : List Int} (h : W.heap[g]? = some (.cells (xs.map fun x => Value.int .i64 x).toArray 3 (0, 0))) (hn : xs.length ≤ 9223372036854775807) : Kd.C (Kd.int .i64) W (some ⟨g, 0, none⟩) xs.length xs := by
  refine ⟨rfl, hn, fun _ => ⟨_, rfl, fun j p hj => ⟨[.int .i64 p], rfl, rfl, fun i u hu => ?_⟩⟩⟩
  cases i with
  | zero =>
    cases hu
    rw [show j * (Kd.int .i64).sz + 0 = j from by show j * 1 + 0 = j; omega, add_plain, blk_cell h j]
    simp [hj]
  | succ i => simp at hu
def hAwake_ : Ln := ⟨0, [], 2, [⟨97, 0, ⟨#[]⟩⟩, ⟨98, 0, ⟨#[]⟩⟩]⟩
set_option maxRecDepth 100000 in
set_option maxHeartbeats 8000000 in
theorem awake06_calls_ (w : World) (hG : Gl_ w) :
    Calls Tryd.prog 25 #[] w fun e w' => e = .returned (.bool true) ∧ Below w.heap.size w w' := by
  have hu38 := Tryd.underlying38
  go_enter Tryd.func25, Tryd.ntmps25
  go_upto_region 2 with (fail)
  have F0 := blk_alloc (heap_alloc_new w (.cells #[.int .i32 97, .int .i64 0, .string ⟨#[]⟩, .int .i32 98, .int .i64 0, .string ⟨#[]⟩] 71)) (.cells #[.int .i64 0, .slice none 0 0, .int .i64 2, .slice (some ⟨w.heap.size, 0, none⟩) 2 2] 38)
  have F1 := heap_alloc_new (w.alloc (.cells #[.int .i32 97, .int .i64 0, .string ⟨#[]⟩, .int .i32 98, .int .i64 0, .string ⟨#[]⟩] 71)) (.cells #[.int .i64 0, .slice none 0 0, .int .i64 2, .slice (some ⟨w.heap.size, 0, none⟩) 2 2] 38)
  rw [World.size_alloc] at F1
  have FB := below_alloc (below_alloc (Below.refl w.heap.size w) (.cells #[.int .i32 97, .int .i64 0, .string ⟨#[]⟩, .int .i32 98, .int .i64 0, .string ⟨#[]⟩] 71)) (.cells #[.int .i64 0, .slice none 0 0, .int .i64 2, .slice (some ⟨w.heap.size, 0, none⟩) 2 2] 38)
  generalize (w.alloc (.cells #[.int .i32 97, .int .i64 0, .string ⟨#[]⟩, .int .i32 98, .int .i64 0, .string ⟨#[]⟩] 71)).alloc (.cells #[.int .i64 0, .slice none 0 0, .int .i64 2, .slice (some ⟨w.heap.size, 0, none⟩) 2 2] 38) = W1 at F0 F1 FB ⊢
  have HH := Aside0.mk (show RdL W1 (.agg #[.int .i64 0, .slice none 0 0, .int .i64 2, .slice (some ⟨w.heap.size, 0, none⟩) 2 2]) hAwake_ from ⟨_, _, rfl, Rd_nil _ _, ⟨_, 2, rfl, two_cells_ (a := ⟨97, 0, ⟨#[]⟩⟩) (b := ⟨98, 0, ⟨#[]⟩⟩) F0, Nat.le_refl _⟩⟩)
  have HSZ := Aside0.mk (show Sz hAwake_ from ⟨by decide, by decide, by decide⟩)
  have HG := Aside0.mk hG
  have HB1 := Aside0.mk FB
  have HF1 := Aside0.mk F1
  clear F0 FB hG
  have c0 : W1.cell? ⟨w.heap.size + 1, 0, none⟩ = some (.int .i64 0) := (blk_cell F1 0).trans rfl
  have c1 : W1.cell? ⟨w.heap.size + 1, 1, none⟩ = some (.slice none 0 0) := (blk_cell F1 1).trans rfl
  have c2 : W1.cell? ⟨w.heap.size + 1, 2, none⟩ = some (.int .i64 2) := (blk_cell F1 2).trans rfl
  have c3 : W1.cell? ⟨w.heap.size + 1, 3, none⟩ = some (.slice (some ⟨w.heap.size, 0, none⟩) 2 2) := (blk_cell F1 3).trans rfl
  clear F1
  have HS := Aside0.mk (split_calls_ hAwake_ 2 _ W1 HH.out HSZ.out (HG.out.below HB1.out))
  rw [show splitR hAwake_ 2 = (⟨0, [], 2, [⟨97, 0, ⟨#[]⟩⟩, ⟨98, 0, ⟨#[]⟩⟩]⟩, ⟨0, [], 0, []⟩, 0) by kernel_rfl] at HS
  go_upto_region 3 with (go_at_call 27; refine HS.out.mono ?_; rintro e w2 ⟨A1, a1, A3, a3, B1, b1, B3, b3, rfl, hwa, hwb, _, _, hb⟩; have HB2 := Aside0.mk hb; clear hb hwa hwb)
  obtain ⟨FA, FBx, FL⟩ := two_boxes_ w2 (.cells #[.int .i64 0, .slice A1 0 a1, .int .i64 2, .slice A3 2 a3] 38) (.cells #[.int .i64 0, .slice B1 0 b1, .int .i64 0, .slice B3 0 b3] 38)
  generalize (w2.alloc (.cells #[.int .i64 0, .slice A1 0 a1, .int .i64 2, .slice A3 2 a3] 38)).alloc (.cells #[.int .i64 0, .slice B1 0 b1, .int .i64 0, .slice B3 0 b3] 38) = W2 at FA FBx FL ⊢
  have HB3 := Aside0.mk (below_step (below_step HB1.out HB2.out) FL)
  have HFH := Aside0.mk (blk_below (blk_below HF1.out HB2.out) FL)
  have HHH := Aside0.mk ((HH.out.below HB2.out).below FL)
  have HFA := Aside0.mk FA
  have HFB := Aside0.mk FBx
  generalize w2.heap.size = na at HFA HFB ⊢
  clear FA FBx FL HS HH HF1 HB1 HB2 c0 c1 c2 c3
  have HI := Aside0.mk (indent_calls_ ⟨0, [0, 1], 0, []⟩ (.agg #[.int .i64 0, .slice (some ⟨W2.heap.size, 0, none⟩) 2 2, .int .i64 0, .slice none 0 0]) (W2.alloc (.cells #[.int .i64 0, .int .i64 1] 3)) ⟨_, _, rfl, ⟨_, 2, rfl, ints_blk_ (xs := [0, 1]) (heap_alloc_new W2 _) (by decide), Nat.le_refl _⟩, Rd_nil _ _⟩ ⟨by decide, by decide, by decide⟩ ((HG.out.below HB3.out).alloc _))
  rw [show turnR indentF ⟨0, [0, 1], 0, []⟩ = (⟨0, [0, 1, 1], 0, []⟩, 0) by kernel_rfl] at HI
  go_upto_region 4 with (go_at_call 42; refine HI.out.mono ?_; rintro e w3 hbk; obtain ⟨C1, d1, C3, d3, rfl, hw, hb⟩ := hbk.low (w := w); dsimp only at hw; have HW3 := Aside0.mk hw; have HB4 := Aside0.mk (below_step (below_alloc (Below.refl W2.heap.size W2) (.cells #[.int .i64 0, .int .i64 1] 3)) hb); clear hb hw)
  have FC := heap_alloc_new w3 (.cells #[.int .i64 0, .slice C1 3 d1, .int .i64 0, .slice C3 0 d3] 38)
  have FL := below_alloc (Below.refl w3.heap.size w3) (.cells #[.int .i64 0, .slice C1 3 d1, .int .i64 0, .slice C3 0 d3] 38)
  generalize w3.alloc (.cells #[.int .i64 0, .slice C1 3 d1, .int .i64 0, .slice C3 0 d3] 38) = W4 at FC FL ⊢
  have HWC := Aside0.mk (HW3.out.rd.below FL)
  have HFC := Aside0.mk FC
  have HB5 := Aside0.mk (below_step HB4.out FL)
  generalize w3.heap.size = nc at HFC ⊢
  clear FC FL HI
  have HO := Aside0.mk (outdent_calls_ zeroLn (.agg #[.int .i64 0, .slice none 0 0, .int .i64 0, .slice none 0 0]) W4 (WrL_zero W4 0).rd ⟨by decide, by decide, by decide⟩ (HG.out.below (below_step HB3.out HB5.out)))
  rw [show turnR outdentF zeroLn = (⟨0, [], 0, []⟩, 7) by kernel_rfl] at HO
  go_upto_region 5 with (go_at_call 43; refine HO.out.mono ?_; rintro e w4 hbk; obtain ⟨D1, f1, D3, f3, rfl, hw, hb⟩ := hbk.low (w := w); dsimp only at hw; have HB6 := Aside0.mk hb; clear hb hw)
  have FL := below_alloc (Below.refl w4.heap.size w4) (.cells #[.int .i64 0, .slice D1 0 f1, .int .i64 0, .slice D3 0 f3] 38)
  generalize w4.alloc (.cells #[.int .i64 0, .slice D1 0 f1, .int .i64 0, .slice D3 0 f3] 38) = W5 at FL ⊢
  have HB7 := Aside0.mk (below_step HB6.out FL)
  generalize w4.heap.size = nd
  clear FL HO HB6
  have HLS := Aside0.mk (list_calls_ 1 hAwake_ (.agg #[.int .i64 0, .slice none 0 0, .int .i64 2, .slice (some ⟨w.heap.size, 0, none⟩) 2 2]) W5 ((HHH.out.below HB5.out).below HB7.out) HSZ.out (HG.out.below (below_step (below_step HB3.out HB5.out) HB7.out)))
  rw [show listR 1 hAwake_ = (⟨0, [1], 0, [⟨97, 0, ⟨#[]⟩⟩, ⟨98, 0, ⟨#[]⟩⟩]⟩, 0) by kernel_rfl] at HLS
  have FH := blk_below (blk_below HFH.out HB5.out) HB7.out
  have c0 : W5.cell? ⟨w.heap.size + 1, 0, none⟩ = some (.int .i64 0) := (blk_cell FH 0).trans rfl
  have c1 : W5.cell? ⟨w.heap.size + 1, 1, none⟩ = some (.slice none 0 0) := (blk_cell FH 1).trans rfl
  have c2 : W5.cell? ⟨w.heap.size + 1, 2, none⟩ = some (.int .i64 2) := (blk_cell FH 2).trans rfl
  have c3 : W5.cell? ⟨w.heap.size + 1, 3, none⟩ = some (.slice (some ⟨w.heap.size, 0, none⟩) 2 2) := (blk_cell FH 3).trans rfl
  clear FH
  go_upto_region 6 with (go_at_call 46; refine HLS.out.mono ?_; rintro e w5 hbk; obtain ⟨E1, g1, E3, g3, rfl, hw, hb⟩ := hbk.low (w := w); dsimp only at hw; have HB8 := Aside0.mk hb; clear hb hw)
  have FE := heap_alloc_new w5 (.cells #[.int .i64 0, .slice E1 1 g1, .int .i64 0, .slice E3 2 g3] 38)
  have FL := below_alloc (Below.refl w5.heap.size w5) (.cells #[.int .i64 0, .slice E1 1 g1, .int .i64 0, .slice E3 2 g3] 38)
  generalize w5.alloc (.cells #[.int .i64 0, .slice E1 1 g1, .int .i64 0, .slice E3 2 g3] 38) = W6 at FE FL ⊢
  have HB9 := Aside0.mk (below_step HB8.out FL)
  generalize w5.heap.size = ne at FE ⊢
  clear FL HLS c0 c1 c2 c3 HB8
  have GA := blk_below (blk_below (blk_below HFA.out HB5.out) HB7.out) HB9.out
  have GB := blk_below (blk_below (blk_below HFB.out HB5.out) HB7.out) HB9.out
  have GC := blk_below (blk_below HFC.out HB7.out) HB9.out
  have a2 : W6.cell? ⟨na, 2, none⟩ = some (.int .i64 2) := (blk_cell GA 2).trans rfl
  have b2 : W6.cell? ⟨na + 1, 2, none⟩ = some (.int .i64 0) := (blk_cell GB 2).trans rfl
  have b3 : W6.cell? ⟨na + 1, 3, none⟩ = some (.slice B3 0 b3) := (blk_cell GB 3).trans rfl
  have c1 : W6.cell? ⟨nc, 1, none⟩ = some (.slice C1 3 d1) := (blk_cell GC 1).trans rfl
  have e1 : W6.cell? ⟨ne, 1, none⟩ = some (.slice E1 1 g1) := (blk_cell FE 1).trans rfl
  have e2 : W6.cell? ⟨ne, 2, none⟩ = some (.int .i64 0) := (blk_cell FE 2).trans rfl
  obtain ⟨_, _, ev, ⟨A, c, ev1, hC, _⟩, _⟩ := (HWC.out.below HB7.out).below HB9.out
  injection ev with ev
  injection ev with ev
  injection ev with _ ev
  injection ev with ev _
  rw [ev1] at ev
  injection ev with ev _ _
  subst ev
  obtain ⟨ad, ead, hx⟩ := atI_ hC 2 (by decide) (by decide)
  subst ead
  have hx2 : W6.cell? ⟨ad.block, ad.off + 2, none⟩ = some (.int .i64 1) := hx
  have HBZ := Aside0.mk (below_step (below_step (below_step HB3.out HB5.out) HB7.out) HB9.out)
  have HMY := Aside0.mk (may_calls_ ⟨0, [0], 1, []⟩ (.agg #[.int .i64 0, .slice (some ⟨W6.heap.size, 0, none⟩) 1 1, .int .i64 1, .slice none 0 0]) (W6.alloc (.cells #[.int .i64 0] 3)) ⟨_, _, rfl, ⟨_, 1, rfl, ints_blk_ (xs := [0]) (heap_alloc_new W6 _) (by decide), Nat.le_refl _⟩, Rd_nil _ _⟩ ⟨by decide, by decide, by decide⟩ ((HG.out.below HBZ.out).alloc _))
  rw [show mayL ⟨0, [0], 1, []⟩ = false by kernel_rfl] at HMY
  clear hC hx ev1 GA GB GC FE HWC HW3 HHH HFH HFA HFB HFC HB3 HB4 HB5 HB7 HB9
  go_wp2_with (go_at_call 37; refine HMY.out.mono ?_; rintro e w6 ⟨rfl, hb⟩; have HBL := Aside0.mk hb; clear hb)
  go_ret
  exact ⟨rfl, below_step (below_alloc HBZ.out _) HBL.out⟩
end Go.Proofs.YtgdpknmffohhaaaDoor.Pl
