/- Lines of a document: what a line's value says, read and written; what may be a line. -/
import Derived.Test.YtgdpknmffohhaaaDoorM0
import Derived.Deep.RegionWith
namespace Go.Proofs.YtgdpknmffohhaaaDoor.Pl
open Go.RowKit Go.Lib Go.Proofs.YtgdpknmffohhaaaDoorW.PrintWords Go.Proofs.YtgdpknmffohhaaaDoorW.PrintLast Go.Proofs.YtgdpknmffohhaaaDoorW.PrintMore
set_option linter.unusedVariables false
structure Ln where
  q : Int
  ls : List Int
  k : Int
  cs : List S71
/-- a row that is read -/
def Rd {α : Type} (d : Kd α) (W : World) (v : Value) (xs : List α) : Prop := ∃ A c, v = .slice A xs.length c ∧ d.C W A xs.length xs ∧ xs.length ≤ c
/-- a row that is read, of a block of its own, or a part of one -/
def Wr {α : Type} (d : Kd α) (e : Nat) (W : World) (base : Nat) (v : Value) (xs : List α) : Prop :=
  ∃ A c, v = .slice A xs.length c ∧ d.C W A xs.length xs ∧ xs.length ≤ c ∧ (0 < xs.length → ∃ g off cells, A = some ⟨g, off, none⟩ ∧ base ≤ g ∧ W.heap[g]? = some (.cells cells e (0, 0)))
section
variable {α : Type} {d : Kd α} {e : Nat} {W W1 : World} {base : Nat} {v : Value} {xs : List α}
theorem Rd.below (h : Rd d W v xs) (hb : Below W.heap.size W W1) : Rd d W1 v xs := by
  obtain ⟨A, c, e1, h1, h2⟩ := h
  exact ⟨A, c, e1, Kd.C_below h1 hb, h2⟩
theorem Rd_nil (d : Kd α) (W : World) : Rd d W (.slice none 0 0) [] := ⟨none, 0, rfl, ⟨rfl, by simp, fun h => absurd h (by simp)⟩, Nat.le_refl _⟩
theorem Rd.len (h : Rd d W v xs) : xs.length ≤ 9223372036854775807 := by
  obtain ⟨A, c, e1, h1, h2⟩ := h
  exact h1.2.1
theorem Wr.rd (h : Wr d e W base v xs) : Rd d W v xs := by
  obtain ⟨A, c, e1, h1, h2, _⟩ := h
  exact ⟨A, c, e1, h1, h2⟩
theorem Wr_nil (d : Kd α) (e : Nat) (W : World) (base : Nat) : Wr d e W base (.slice none 0 0) [] :=
  ⟨none, 0, rfl, ⟨rfl, by simp, fun h => absurd h (by simp)⟩, Nat.le_refl _, fun h => absurd h (by simp)⟩
theorem Wr.lower {base' : Nat} (h : Wr d e W base v xs) (hb : base' ≤ base) : Wr d e W base' v xs := by
  obtain ⟨A, c, e1, h1, h2, h3⟩ := h
  exact ⟨A, c, e1, h1, h2, fun h => by obtain ⟨g, off, cells, e2, h4, h5⟩ := h3 h; exact ⟨g, off, cells, e2, Nat.le_trans hb h4, h5⟩⟩
theorem Wr.below (h : Wr d e W base v xs) (hb : Below W.heap.size W W1) : Wr d e W1 base v xs := by
  obtain ⟨A, c, e1, h1, h2, h3⟩ := h
  exact ⟨A, c, e1, Kd.C_below h1 hb, h2, fun h => by
    obtain ⟨g, off, cells, e2, h4, h5⟩ := h3 h
    exact ⟨g, off, cells, e2, h4, (hb.block g (Array.getElem?_eq_some_iff.1 h5).1).trans h5⟩⟩
theorem Wr.of_R {ok : Nat → Prop} (h : Kd.R d e W base ok v xs) : Wr d e W base v xs := by
  obtain ⟨A, c, rfl⟩ := Kd.R_slice h
  obtain ⟨_, h1, h2⟩ := Kd.R_reads' h
  refine ⟨A, c, rfl, h2, h1, fun hp => ?_⟩
  obtain ⟨g, cap, e1, h3, h4, cells, h5⟩ := Kd.R_form h hp
  injection e1 with e2
  exact ⟨g, 0, cells, e2, h3, h5⟩
end
/-- a line that is read -/
def RdL (W : World) (v : Value) (x : Ln) : Prop := ∃ v1 v3, v = .agg #[.int .i64 x.q, v1, .int .i64 x.k, v3] ∧ Rd (Kd.int .i64) W v1 x.ls ∧ Rd k71 W v3 x.cs
/-- a line that is read, its rows in memory from base on -/
def WrL (W : World) (base : Nat) (v : Value) (x : Ln) : Prop := ∃ v1 v3, v = .agg #[.int .i64 x.q, v1, .int .i64 x.k, v3] ∧ Wr (Kd.int .i64) 3 W base v1 x.ls ∧ Wr k71 71 W base v3 x.cs
theorem WrL.rd {W : World} {base : Nat} {v : Value} {x : Ln} (h : WrL W base v x) : RdL W v x := by
  obtain ⟨v1, v3, e, h1, h3⟩ := h
  exact ⟨v1, v3, e, h1.rd, h3.rd⟩
theorem RdL.below {W W1 : World} {v : Value} {x : Ln} (h : RdL W v x) (hb : Below W.heap.size W W1) : RdL W1 v x := by
  obtain ⟨v1, v3, e, h1, h3⟩ := h
  exact ⟨v1, v3, e, h1.below hb, h3.below hb⟩
theorem WrL.below {W W1 : World} {base : Nat} {v : Value} {x : Ln} (h : WrL W base v x) (hb : Below W.heap.size W W1) : WrL W1 base v x := by
  obtain ⟨v1, v3, e, h1, h3⟩ := h
  exact ⟨v1, v3, e, h1.below hb, h3.below hb⟩
theorem WrL.lower {W : World} {base base' : Nat} {v : Value} {x : Ln} (h : WrL W base v x) (hb : base' ≤ base) : WrL W base' v x := by
  obtain ⟨v1, v3, e, h1, h3⟩ := h
  exact ⟨v1, v3, e, h1.lower hb, h3.lower hb⟩
def zeroLn : Ln := ⟨0, [], 0, []⟩
theorem WrL_zero (W : World) (base : Nat) : WrL W base (.agg #[.int .i64 0, .slice none 0 0, .int .i64 0, .slice none 0 0]) zeroLn := ⟨_, _, rfl, Wr_nil _ _ _ _, Wr_nil _ _ _ _⟩
/-- how long a line may be here -/
def Sz (x : Ln) : Prop := x.ls.length ≤ 100000 ∧ x.cs.length ≤ 100000 ∧ ∀ c ∈ x.cs, c.f2.size ≤ 1000000
def kindBad_ (k : Int) : Bool := k != 0 && k != 1
/-- may a line be -/
def mayL (x : Ln) : Bool := decide (0 ≤ x.q ∧ x.q ≤ 6 ∧ x.ls.length ≤ 6 ∧ 0 ≤ x.k ∧ x.k ≤ 3 ∧ (x.ls.length = 0 ∨ x.k = 0)) && (!(x.ls.any kindBad_) && !(x.cs.any bad_))
theorem Sz.may {x : Ln} (h : Sz x) : cells_May.f x.cs = some (!(x.cs.any bad_)) := by
  unfold cells_May.f
  rw [if_pos (List.all_eq_true.2 fun c hc => decide_eq_true (by have := h.2.2 c hc; omega))]
def Tells1_ {α : Type} (arg : α → Value) (w : World) (g : Nat) (lb : Array Value) (p : α → Bool) (l : List α) : Prop := Tells_ arg w g lb p l
theorem Gl_.alloc {w : World} (h : Gl_ w) (o : Obj) : Gl_ (w.alloc o) := h.below (below_alloc (Below.refl _ _) o)
theorem Gl_.drewN {w : World} (h : Gl_ w) (n : Nat) : Gl_ (w.drewN n) := h.below (pw_below_drewN (Below.refl _ _) n)
theorem R_put_ {α : Type} {d : Kd α} {e : Nat} {W : World} {base : Nat} {v : Value} {xs : List α} {g t : Nat} {cells : Array Value} (h : Kd.R d e W base (fun _ => True) v xs) (hb : W.heap[g]? = some (.cells cells t (0, 0))) (ht : ∀ q, q ∈ e :: d.E → q ≠ t) (i : Nat) (u : Value) :
    Kd.R d e (W.setCell ⟨g, i, none⟩ u) base (fun _ => True) v xs := Kd.R_mono (Kd.R_far (p := ⟨g, i, none⟩) (Kd.R_types h hb ht) (fun _ hk => hk.2) u) (fun _ _ => trivial)
theorem blk_off_ {W : World} {k g i : Nat} {u : Value} {o : Obj} (h : W.heap[k]? = some o) (hne : k ≠ g) : (W.setCell ⟨g, i, none⟩ u).heap[k]? = some o := (Below.heap_setCell W ⟨g, i, none⟩ u k hne).trans h
/-- a line's four cells, written -/
def put4_ (W : World) (g : Nat) (a b c d : Value) : World := (((W.setCell ⟨g, 0, none⟩ a).setCell ⟨g, 1, none⟩ b).setCell ⟨g, 2, none⟩ c).setCell ⟨g, 3, none⟩ d
section
variable {W : World} {g : Nat} {a b c d z0 z1 z2 z3 : Value} {t : Nat}
theorem put4_blk (h : W.heap[g]? = some (.cells #[z0, z1, z2, z3] t (0, 0))) : (put4_ W g a b c d).heap[g]? = some (.cells #[a, b, c, d] t (0, 0)) :=
  blk_put (blk_put (blk_put (blk_put h 0 a rfl) 1 b rfl) 2 c rfl) 3 d rfl
theorem put4_off {k : Nat} {o : Obj} (h : W.heap[k]? = some o) (hne : k ≠ g) : (put4_ W g a b c d).heap[k]? = some o := blk_off_ (blk_off_ (blk_off_ (blk_off_ h hne) hne) hne) hne
theorem put4_R {α : Type} {kd : Kd α} {e base : Nat} {v : Value} {xs : List α} (h : Kd.R kd e W base (fun _ => True) v xs) (hb : W.heap[g]? = some (.cells #[z0, z1, z2, z3] t (0, 0))) (ht : ∀ q, q ∈ e :: kd.E → q ≠ t) : Kd.R kd e (put4_ W g a b c d) base (fun _ => True) v xs :=
  R_put_ (R_put_ (R_put_ (R_put_ h hb ht 0 a) (blk_put hb 0 a rfl) ht 1 b) (blk_put (blk_put hb 0 a rfl) 1 b rfl) ht 2 c) (blk_put (blk_put (blk_put hb 0 a rfl) 1 b rfl) 2 c rfl) ht 3 d
theorem put4_below {w : World} (h : Below w.heap.size w W) (hg : w.heap.size ≤ g) : Below w.heap.size w (put4_ W g a b c d) := below_set (below_set (below_set (below_set h hg) hg) hg) hg
end
theorem two_boxes_ (w : World) (O1 O2 : Obj) : ((w.alloc O1).alloc O2).heap[w.heap.size]? = some O1 ∧ ((w.alloc O1).alloc O2).heap[w.heap.size + 1]? = some O2 ∧ Below w.heap.size w ((w.alloc O1).alloc O2) := by
  refine ⟨blk_alloc (heap_alloc_new w O1) O2, ?_, below_alloc (below_alloc (Below.refl _ _) O1) O2⟩
  have h := heap_alloc_new (w.alloc O1) O2
  rwa [World.size_alloc] at h
end Go.Proofs.YtgdpknmffohhaaaDoor.Pl
