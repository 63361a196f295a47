-- PRINTED by print.py (a twelfth state) out of the translation. Not trusted: Lean checks it.
import Derived.Test.YtgdpknmffohhaaaPr0
import Derived.Test.YtgdpknmffohhaaaPr8
import Derived.Test.YtgdpknmffohhaaaPr9
namespace Go.Proofs.Ytgdpknmffohhaaa.Pr
open Go.RowKit Go.Proofs.YtgdpknmffohhaaaW.PrintWords Go.Proofs.YtgdpknmffohhaaaW.PrintLast Go.Proofs.YtgdpknmffohhaaaW.PrintMore
attribute [local go_sem] max2_int min2_int max_two min_two max_three min_three max_four min_four   -- for this text's walks alone
set_option linter.unusedVariables false
set_option linter.unusedSimpArgs false

/-! ### cells_Runs: function 9 (given) -/
attribute [local go_sem] Oper.semAt_some
def cells_Runs.f (l0 : List (S30)) : Option (List (S28)) := if l0.length ≤ 1000000000 then some (runs_ l0) else none
def rcells1_ (x : S28) : List Value := [.int .i64 x.f0, .int .i64 x.f1, .int .i64 x.f2, .string x.f3, .int .i64 x.f4]
def rcells_ (xs : List S28) : List Value := xs.flatMap rcells1_
theorem rcells_length_ (xs : List S28) : (rcells_ xs).length = xs.length * 5 := by
  induction xs with
  | nil => rfl
  | cons x t ih => simp only [rcells_, List.flatMap_cons, List.length_append, List.length_cons] at ih ⊢; rw [ih]; simp [rcells1_]; omega
theorem rcells_snoc_ (xs : List S28) (x : S28) : rcells_ (xs ++ [x]) = rcells_ xs ++ rcells1_ x := by simp [rcells_]
theorem reps_cells_ (W : World) (b : Nat) (ok : Nat → Prop) : ∀ xs : List S28, Reps (k28.M W b ok) 5 xs (rcells_ xs)
  | [] => Reps.none _ _
  | x :: t => by
    have ih := reps_cells_ W b ok t
    refine ⟨rcells_length_ _, fun j p hj => ?_⟩
    have e : rcells_ (x :: t) = rcells1_ x ++ rcells_ t := by simp [rcells_]
    rw [e]
    cases j with
    | zero =>
      cases hj
      exact k28_mkM _ _ _ x
    | succ j =>
      have e5 : (rcells1_ x ++ rcells_ t).drop ((j + 1) * 5) = (rcells_ t).drop (j * 5) := by
        rw [show (j + 1) * 5 = 5 + j * 5 by omega, ← List.drop_drop]
        rfl
      rw [e5]
      exact ih.2 j p (by simpa using hj)
theorem kp_app_ {W w1 : World} {n₀ o : Nat} {v v' : Value} {e : TypeId} {k m : Nat} {ys : List Value} {tmp : Obj} (hv : Boxed W o 25 v) (hb : Below n₀ W (w1.setCell ⟨o, 0, none⟩ v'))
    (hv2 : Boxed (w1.setCell ⟨o, 0, none⟩ v') o 25 v') (hgrow : (W.alloc tmp).grownBy w1 v.ownBlock) (hown : (w1.setCell ⟨o, 0, none⟩ v').ownsRow n₀ e k v' m ys)
    (hat : v'.ownBlock = v.ownBlock ∨ v'.ownBlock = some (W.heap.size + 1)) : Kp_ n₀ o W (w1.setCell ⟨o, 0, none⟩ v') := by
  refine Kp_.mk' hb (fun b hf => ?_) (fun _ u hu b he => ?_)
  · obtain ⟨⟨cs, t, fr, hc⟩, hne, hown⟩ := hf
    have hlt := (Array.getElem?_eq_some_iff.1 hc).1
    rw [Below.heap_setCell _ _ _ b hne, hgrow.block b (by simp; omega) (fun e => hown v hv.cell e.symm)]
    exact Below.heap_alloc W tmp b hlt
  · rw [hv2.cell] at hu
    cases hu
    refine ⟨(hown.lt b he).2, ?_⟩
    rcases hat with h | h
    · exact .inl ⟨v, hv.cell, by rw [← h]; exact he⟩
    · rw [h] at he
      cases he
      exact .inr (by omega)
set_option maxHeartbeats 1000000 in
theorem runsMake_ (A0 : Option Addr) (n c0 : Nat) (w : World) : Calls Try.prog 22 #[.slice A0 n c0] w fun e w' => e = .returned (.func (.func 35) #[] #[.pointer (some ⟨w.heap.size, 0, none⟩)]) ∧ w' = w.alloc (.cells #[.slice A0 n c0] 22) := by
  go_enter Try.func22, Try.ntmps22
  go_wp2
  go_ret
  exact ⟨rfl, rfl⟩
set_option maxRecDepth 100000 in
set_option maxHeartbeats 8000000 in
theorem cells_Runs.calls (A0 : Option Addr) (c0 : Nat) (l0 : List (S30)) (r : List (S28)) (w : World) (hr0 : Kd.C k30 w A0 l0.length l0) (hc0 : l0.length ≤ c0) (h : cells_Runs.f l0 = some r) :
    Calls Try.prog 9 #[.slice A0 l0.length c0] w fun e w' => ∃ v0_ : Value, e = .returned (v0_) ∧ Kd.R k28 28 w' w.heap.size (fun _ => True) v0_ r ∧ Below w.heap.size w w' := by
  unfold cells_Runs.f at h
  by_cases hl : l0.length ≤ 1000000000
  · rw [if_pos hl] at h
    obtain rfl := Option.some.inj h
    clear h
    obtain ⟨i0, hi, hz0, hz1, hz2⟩ := info_parts info28
    refine (callsIn_wide (n := 3)).1 ?_
    refine callsIn_of_wp_marks Try.func9 rfl trivial ?_ rfl
    simp only [Try.ntmps9, List.size_toArray, List.length_cons, List.length_nil, Nat.reduceAdd, Nat.reduceSub, Array.replicate_succ, Array.replicate_zero, List.push_toArray, List.append_toArray, List.nil_append, List.cons_append]
    have f22 : Fence.wide.fn 22 := trivial
    gi_wp2_with (gi_at_call 22; refine (callsIn_wide.2 (runsMake_ _ _ _ _)).mono ?_; rintro e w' ⟨rfl, rfl⟩)
    have bO := Boxed.new w 25 (.slice none 0 0)
    have bL := Boxed.new (w.alloc (.cells #[.slice none 0 0] 25)) 22 (.slice A0 l0.length c0)
    rw [World.size_alloc] at bL
    have hB0 : Below w.heap.size w ((w.alloc (.cells #[.slice none 0 0] 25)).alloc (.cells #[.slice A0 l0.length c0] 22)) := ((Below.refl _ w).alloc (Nat.le_refl _) _).alloc (by simp) _
    have hsz : ((w.alloc (.cells #[.slice none 0 0] 25)).alloc (.cells #[.slice A0 l0.length c0] 22)).heap.size = w.heap.size + 2 := by simp
    have bO := bO.alloc (.cells #[.slice A0 l0.length c0] 22)
    obtain ⟨W0, hW0⟩ : ∃ W0, (w.alloc (.cells #[.slice none 0 0] 25)).alloc (.cells #[.slice A0 l0.length c0] 22) = W0 := ⟨_, rfl⟩
    rw [hW0] at bO bL hB0 hsz ⊢
    clear hW0
    refine wpIn_rangeFunc_ownH (F := Fence.wide) rfl (by omega) (gf := 35) (lb := #[.pointer (some ⟨w.heap.size + 1, 0, none⟩)]) rfl trivial (enters_of Try.func35 (by kernel_rfl) rfl)
      (encs := encR_) (Kp := Kp_ w.heap.size w.heap.size) (S := fun ys => ys = runs_ l0) (Sp := fun _ => True) (N := l0.length) (w0 := W0)
      (fun l J Jx W hW hJ hJx hY h0 => callsIn_wide.2 (runs1_ (3 - 1) l (w.heap.size + 1) w.heap.size w.heap.size A0 c0 l0 J Jx W hJ hY ((hW.block _ (by omega)).trans bL) (fun W' hW' => Kd.C_below hr0 ((hB0.trans (hW.mono (by omega))).trans hW'))
        (fun v hv b hb => by rw [hW.cell (p := ⟨w.heap.size, 0, none⟩) (show w.heap.size < W0.heap.size by omega), bO.cell] at hv; cases hv; cases hb)
        ⟨⟨_, _, _, (hW.block _ (by omega)).trans bL⟩, by omega, fun v hv => by rw [hW.cell (p := ⟨w.heap.size, 0, none⟩) (show w.heap.size < W0.heap.size by omega), bO.cell] at hv; cases hv; simp [Value.ownBlock]⟩
        (by have := hW.size; omega) (by have := hW.size; omega) hl (by omega) h0))
      Kp_.trans (fun W l o o' hl ho hc _ => Kp_.putObj (N := W0.heap.size) (by omega) (by omega) W l o o' hl ho hc) (Below.refl _ _) (fun _ => rfl)
      (fun pre W => (∃ v, Boxed W w.heap.size 25 v ∧ W.ownsRow w.heap.size 28 5 v pre.length (rcells_ pre) ∧ True) ∧ Below w.heap.size w W)
      (fun _ _ _ => False)
      (OwnFrom.and (Own.from (holdsRow_own w.heap.size w.heap.size 25 28 5 (fun pre => pre.length) (fun pre => rcells_ pre) (fun _ _ => True)) _) (ownFrom_below (Nat.le_refl _) (by omega)))
      (fun _ _ _ _ _ hs _ _ => hs)
      ⟨⟨_, bO, World.ownsRow_nil _ _ _ _, trivial⟩, hB0⟩
      (fun x a' W => ∃ Bx, W.heap[Bx]? = some (.cells (rcells1_ x).toArray 28 (0, 0)) ∧ a' = { tmps := #[.slice A0 l0.length c0, undef, .slice none 0 0, .pointer (some ⟨w.heap.size, 0, none⟩), .pointer (some ⟨Bx, 0, none⟩), .slice A0 l0.length c0, .func (.func 35) #[] #[.pointer (some ⟨w.heap.size + 1, 0, none⟩)], .agg (rcells1_ x).toArray, undef, undef, undef, undef, undef], defers := [] })
      (fun x a' _ X Y row hs hg hr => by
        obtain ⟨Bx, h1, h2⟩ := hs
        refine ⟨Bx, (hg.block Bx (Array.getElem?_eq_some_iff.1 h1).1 (fun e => ?_)).trans h1, h2⟩
        obtain ⟨_, o, ho, hc⟩ := hr Bx e.symm
        rw [h1] at ho
        cases ho
        cases hc)
      ?assign ?body ?done ?stop
    case assign =>
      rintro l pre x W K ⟨⟨v, hv, hrow, _⟩, hB⟩ hK
      have hlo : w.heap.size < W.heap.size := hv.lt
      have he : encR_ x = #[.agg #[.int .i64 x.f0, .int .i64 x.f1, .int .i64 x.f2, .string x.f3, .int .i64 x.f4]] := rfl
      rw [he]
      gi_wp2
      exact hK _ _ ((KeepsOthers.alloc _ _).from _) (Kp_.grown (by omega) hlo (below_alloc (Below.refl _ _) _)) ⟨⟨v, hv.alloc _, hrow.alloc _, trivial⟩, hB.alloc hB.size _⟩ ⟨W.heap.size, heap_alloc_new W _, rfl⟩
    case body =>
      rintro l pre x a' W hl' ⟨rr, hr⟩ ⟨⟨v, hv, hrow, _⟩, hB⟩ ⟨Bx, hbx, rfl⟩ hlt
      have hc := hv.cell
      have b0 : W.cell? ⟨Bx, 0, none⟩ = some (.int .i64 x.f0) := (blk_cell hbx 0).trans rfl
      have b1 : W.cell? ⟨Bx, 1, none⟩ = some (.int .i64 x.f1) := (blk_cell hbx 1).trans rfl
      have b2 : W.cell? ⟨Bx, 2, none⟩ = some (.int .i64 x.f2) := (blk_cell hbx 2).trans rfl
      have b3 : W.cell? ⟨Bx, 3, none⟩ = some (.string x.f3) := (blk_cell hbx 3).trans rfl
      have b4 : W.cell? ⟨Bx, 4, none⟩ = some (.int .i64 x.f4) := (blk_cell hbx 4).trans rfl
      gi_wp2_with (gi_at_builtin; refine wpListIn_append_own_at _ rfl (.tmp 8) (.tmp 10) 25 rfl w.heap.size 28 i0 _ 5 48 Try.underlying25 hi hz0 hz1 hz2 rfl (by decide) v pre.length (rcells_ pre) rfl (hrow.alloc _) ⟨W.heap.size, 0, none⟩ 1 1 (rcells1_ x) rfl rfl (World.news_of_block (cs := (rcells1_ x).toArray) (t := 28) (fr := (0, 0)) (heap_alloc_new W _)) (by simp [rcells1_, Value.oneCell']) (by unfold maxLen; omega) (by omega) (by have := hB.size; simp; omega) ?_)
      intro v' w1 hown' hgrow _ hat
      obtain ⟨g', cap', rfl⟩ := ownsRow_succ hown'
      obtain ⟨hv1, hv2, hr2, hk2, hb2⟩ := hv.appended (by decide) hrow hB.size (Nat.le_refl _) hown' hgrow
      have hc1 := hv1.cell
      have hf1 := hv1.frozen
      have KP := Aside0.mk (kp_app_ hv hb2 hv2 hgrow hr2 hat)
      gi_wp2
      exact ⟨hk2.from _, KP.out, ⟨_, hv2, by rw [rcells_snoc_]; simpa using hr2, trivial⟩, hB.trans hb2⟩
    case done =>
      rintro D ys W hD rfl ⟨⟨v, hv, hrow, _⟩, hB⟩ hK
      have hc := hv.cell
      gi_wp2
      refine ⟨by simp, .inl ⟨_, _, rfl, run_takeDeferred hK, ?_⟩⟩
      have hrow2 := ownsRow_putObj hrow (.deferred none) hK rfl
      exact ⟨_, results_tmp rfl _ _ _, v, rfl, ⟨fun _ _ => trivial, rcells_ (runs_ l0), hrow2, reps_cells_ _ _ _ _⟩, hB.trans (belowK_b (w := w) (Nat.le_refl _) W D _ _ (by omega) hK rfl rfl)⟩
    case stop =>
      rintro D c pre W _ _ h _
      exact h.elim
  · rw [if_neg hl] at h
    exact absurd h (by simp)

end Go.Proofs.Ytgdpknmffohhaaa.Pr
