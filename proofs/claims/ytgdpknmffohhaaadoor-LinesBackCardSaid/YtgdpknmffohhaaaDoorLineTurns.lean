/- The closures that turn a line. -/
import Derived.Test.YtgdpknmffohhaaaDoorLineTurn
namespace Go.Proofs.YtgdpknmffohhaaaDoor.Pl
open Go.RowKit Go.Lib Go.Proofs.YtgdpknmffohhaaaDoorW.PrintWords Go.Proofs.YtgdpknmffohhaaaDoorW.PrintLast Go.Proofs.YtgdpknmffohhaaaDoorW.PrintMore
set_option linter.unusedVariables false
theorem mayL_parts {x : Ln} (h : mayL x = true) : (0 ≤ x.q ∧ x.q ≤ 6 ∧ x.ls.length ≤ 6 ∧ 0 ≤ x.k ∧ x.k ≤ 3 ∧ (x.ls.length = 0 ∨ x.k = 0)) ∧ (∀ k ∈ x.ls, k = 0 ∨ k = 1) ∧ ∀ c ∈ x.cs, bad_ c = false := by
  unfold mayL at h
  rw [Bool.and_eq_true, Bool.and_eq_true, decide_eq_true_eq] at h
  refine ⟨h.1, fun k hk => ?_, fun c hc => ?_⟩
  · have h2 := h.2.1
    rw [Bool.not_eq_true', List.any_eq_false] at h2
    have := h2 k hk
    unfold kindBad_ at this
    simp only [Bool.and_eq_true, bne_iff_ne, ne_eq] at this
    omega
  · have h2 := h.2.2
    rw [Bool.not_eq_true', List.any_eq_false] at h2
    simpa using h2 c hc
theorem mayL_of {x : Ln} (h1 : 0 ≤ x.q ∧ x.q ≤ 6 ∧ x.ls.length ≤ 6 ∧ 0 ≤ x.k ∧ x.k ≤ 3 ∧ (x.ls.length = 0 ∨ x.k = 0)) (h2 : ∀ k ∈ x.ls, k = 0 ∨ k = 1) (h3 : ∀ c ∈ x.cs, bad_ c = false) : mayL x = true := by
  unfold mayL
  rw [Bool.and_eq_true, Bool.and_eq_true, decide_eq_true_eq, Bool.not_eq_true', Bool.not_eq_true', List.any_eq_false, List.any_eq_false]
  refine ⟨h1, fun k hk => ?_, fun c hc => by rw [h3 c hc]; decide⟩
  unfold kindBad_
  rcases h2 k hk with rfl | rfl <;> decide
theorem snoc_of_ne {ls : List Int} (h : ls ≠ []) : ∃ l a, ls = l ++ [a] := ⟨ls.dropLast, ls.getLast h, (List.dropLast_concat_getLast h).symm⟩
theorem lastF_may {x : Ln} (h : mayL x = true) (h0 : x.ls ≠ []) : lastF x.ls = 0 ∨ lastF x.ls = 1 := by
  obtain ⟨l, a, e⟩ := snoc_of_ne h0
  rw [e, lastF_snoc]
  exact (mayL_parts h).2.1 a (by rw [e]; simp)
def indentF (x : Ln) : Bool × Ln := if x.ls = [] then (decide (x.q + 1 ≤ 6), { x with q := x.q + 1 }) else (decide ((x.ls.length : Int) + 1 ≤ 6), { x with ls := x.ls ++ [lastF x.ls] })
def outdentF (x : Ln) : Bool × Ln := if x.ls = [] then (decide (1 ≤ x.q), { x with q := x.q - 1 }) else (true, { x with ls := dropF x.ls })
def listF (kind : Int) (x : Ln) : Bool × Ln := if x.ls = [] then (true, { x with ls := [kind], k := 0 }) else (lastF x.ls != kind, { x with ls := x.ls.set (x.ls.length - 1) kind })
def formatF (kind : Int) (x : Ln) : Bool × Ln := (if x.ls = [] then x.k != kind else false, { x with k := kind })
def freeF (x : Ln) : Bool × Ln := if x.ls = [] then (if 0 < x.k then (true, { x with k := 0 }) else if 0 < x.q then (true, { x with q := x.q - 1 }) else (false, x)) else (true, { x with ls := dropF x.ls })
theorem grown_box_ {W w1 : World} {base : Nat} {v1 : Value} {ls : List Int} {o : Nat} {cells : Array Value} (hr : Kd.R (Kd.int .i64) 3 W base (fun _ => True) v1 ls) (hg : W.grownBy w1 v1.ownBlock) (h : W.heap[o]? = some (.cells cells 38 (0, 0))) : w1.heap[o]? = some (.cells cells 38 (0, 0)) :=
  blk_grown h hg (fun e => by
    obtain ⟨cs, hc⟩ := Kd.R_typed hr o e.symm
    rw [h] at hc
    injection hc with hc
    injection hc with _ hc
    exact absurd hc (by decide))
set_option maxRecDepth 100000 in
set_option maxHeartbeats 4000000 in
theorem indent_turns_ (w0 : World) : Turns_ w0 89 #[] indentF := by
  intro x W b v1 v3 hm hz hb hr1 hr3 hbb hB
  show Calls Tryd.prog 89 #[.pointer (some ⟨b, 0, none⟩)] W _
  have hu38 := Tryd.underlying38
  obtain ⟨A, c, rfl⟩ := Kd.R_slice hr1
  have HL := Aside0.mk (last_calls_ x.ls b _ W hb.c1 (Wr.of_R hr1).rd)
  have hmp := (mayL_parts hm).1
  unfold indentF
  by_cases h0 : x.ls = []
  · rw [if_pos h0]
    have hl : lastF x.ls = -1 := by rw [h0]; rfl
    rw [hl] at HL
    have hw : IntKind.i64.wrap (x.q + 1) = x.q + 1 := by rw [i64_w]; unfold wrap64; omega
    have c0 := hb.c0
    have f0 : W.frozen? ⟨b, 0, none⟩ = false := blk_frozen hb 0
    have HBX := Aside0.mk hb
    have H1 := Aside0.mk hr1
    have H3 := Aside0.mk hr3
    have HB := Aside0.mk hB
    clear hl hb hr1 hr3 hB hmp h0 hm hz
    go_enter Tryd.func89, Tryd.ntmps89
    go_wp2_with (go_at_call 90; refine HL.out.mono ?_; rintro e w' ⟨rfl, ⟨nd, rfl⟩⟩)
    go_ret
    refine ⟨_, rfl, blk_put (blk_drewN HBX.out nd) 0 _ rfl, Wr.of_R (R_put_ (Kd.R_drewN H1.out nd) (blk_drewN HBX.out nd) (by decide) 0 _), Wr.of_R (R_put_ (Kd.R_drewN H3.out nd) (blk_drewN HBX.out nd) (by decide) 0 _), below_set (pw_below_drewN HB.out nd) hbb, fun o cells hne ho => blk_off_ ho hne⟩
  · rw [if_neg h0]
    have hk := lastF_may hm h0
    have d1 : decide (lastF x.ls ≥ 0) = true := decide_eq_true (by omega)
    have HBX := Aside0.mk hb
    have H1 := Aside0.mk hr1
    have H3 := Aside0.mk hr3
    have HB := Aside0.mk hB
    have c1 := hb.c1
    have f1 : W.frozen? ⟨b, 1, none⟩ = false := blk_frozen hb 1
    have HZ := Aside0.mk (show x.ls.length ≤ 6 by omega)
    generalize lastF x.ls = kk at HL d1 ⊢
    clear hb hr1 hr3 hB hmp h0 hm hz hk
    go_enter Tryd.func89, Tryd.ntmps89
    go_wp2_with (first | (go_at_call 90; refine HL.out.mono ?_; rintro e w' ⟨rfl, ⟨nd, rfl⟩⟩) | ((with_reducible refine gate_builtin (b := .append) (xs := #[.tmp 12, .tmp 14]) rfl ?_); at_builtin; refine Kd.R_append (Kd.int .i64) (w0 := w0) w0.heap.size rfl (.tmp 12) (.tmp 14) 35 3 (.int .i64 0) 8 rfl Tryd.underlying35 info3 rfl (by decide) (by omega) (.slice A x.ls.length c) x.ls kk [.int .i64 kk] (fun _ => True) (fun _ => False) rfl rfl ?aP (fun _ hk => hk.elim) ?aF ?aO ?aB ?aS ?aL ?_; (case aP => rfl); (case aB => exact pw_below_drewN HB.out _); (case aF => exact (fun _ _ => trivial)); (case aO => exact Kd.R_drewN H1.out _); (case aS => exact HB.out.size); (case aL => have := HZ.out; omega); intro v1' w1 ho hbw hg hat; obtain ⟨A', c', rfl⟩ := Kd.R_slice ho; rw [List.length_append, List.length_singleton] at ho; have HO1 := Aside0.mk ho; have HB1 := Aside0.mk hbw; have HG := Aside0.mk hg; have fb := grown_box_ (Kd.R_drewN H1.out _) hg (blk_drewN HBX.out _); have c1' : w1.cell? ⟨b, 1, none⟩ = some (.slice A x.ls.length c) := (blk_cell fb 1).trans rfl; have f1' : w1.frozen? ⟨b, 1, none⟩ = false := blk_frozen fb 1; have FB := Aside0.mk fb; clear ho hbw hg hat fb))
    go_ret
    refine ⟨_, rfl, blk_put FB.out 1 _ rfl, Wr.of_R (R_put_ HO1.out FB.out (by decide) 1 _), Wr.of_R (R_put_ (Kd.R_over' (Kd.R_drewN H3.out nd) (Kd.R_typed (Kd.R_drewN H1.out nd)) (by decide) HG.out) FB.out (by decide) 1 _), below_set HB1.out hbb, fun o cells hne ho => blk_off_ (grown_box_ (Kd.R_drewN H1.out nd) HG.out ho) hne⟩
set_option maxRecDepth 100000 in
set_option maxHeartbeats 4000000 in
theorem outdent_turns_ (w0 : World) : Turns_ w0 91 #[] outdentF := by
  intro x W b v1 v3 hm hz hb hr1 hr3 hbb hB
  show Calls Tryd.prog 91 #[.pointer (some ⟨b, 0, none⟩)] W _
  have hu38 := Tryd.underlying38
  obtain ⟨A, c, rfl⟩ := Kd.R_slice hr1
  have hmp := (mayL_parts hm).1
  unfold outdentF
  have HBX := Aside0.mk hb
  have H1 := Aside0.mk hr1
  have H3 := Aside0.mk hr3
  have HB := Aside0.mk hB
  by_cases h0 : x.ls = []
  · rw [if_pos h0]
    have HL := Aside0.mk (lift_none_ x b _ v3 W hb (Wr.of_R hr1).rd h0)
    have hw : IntKind.i64.wrap (x.q - 1) = x.q - 1 := by rw [i64_w]; unfold wrap64; omega
    have c0 := hb.c0
    have f0 : W.frozen? ⟨b, 0, none⟩ = false := blk_frozen hb 0
    clear hb hr1 hr3 hB hmp h0 hm hz
    go_enter Tryd.func91, Tryd.ntmps91
    go_wp2_with (go_at_call 92; refine HL.out.mono ?_; rintro e w' ⟨rfl, ⟨nd, rfl⟩⟩)
    go_ret
    refine ⟨_, rfl, blk_put (blk_drewN HBX.out nd) 0 _ rfl, Wr.of_R (R_put_ (Kd.R_drewN H1.out nd) (blk_drewN HBX.out nd) (by decide) 0 _), Wr.of_R (R_put_ (Kd.R_drewN H3.out nd) (blk_drewN HBX.out nd) (by decide) 0 _), below_set (pw_below_drewN HB.out nd) hbb, fun o cells hne ho => blk_off_ ho hne⟩
  · rw [if_neg h0]
    have hk := lastF_may hm h0
    obtain ⟨n, hn⟩ : ∃ n, n + 1 = x.ls.length := ⟨x.ls.length - 1, by have := List.length_pos_iff.2 h0; omega⟩
    have HL := Aside0.mk (lift_some_ x b n A c v3 W hb (Wr.of_R hr1).rd hn (by omega))
    clear hb hr1 hr3 hB hmp h0 hm hz hk
    go_enter Tryd.func91, Tryd.ntmps91
    go_wp2_with (go_at_call 92; refine HL.out.mono ?_; rintro e w' ⟨rfl, nd, rfl⟩)
    go_ret
    refine ⟨_, rfl, blk_put (blk_drewN HBX.out nd) 1 _ rfl, Wr_shut_ (R_put_ (Kd.R_drewN H1.out nd) (blk_drewN HBX.out nd) (by decide) 1 _) hn, Wr.of_R (R_put_ (Kd.R_drewN H3.out nd) (blk_drewN HBX.out nd) (by decide) 1 _), below_set (pw_below_drewN HB.out nd) hbb, fun o cells hne ho => blk_off_ ho hne⟩
set_option maxRecDepth 100000 in
set_option maxHeartbeats 4000000 in
theorem format_turns_ (w0 : World) (kind : Int) (bk : Nat) (hk : w0.cell? ⟨bk, 0, none⟩ = some (.int .i64 kind)) : Turns_ w0 94 #[.pointer (some ⟨bk, 0, none⟩)] (formatF kind) := by
  intro x W b v1 v3 hm hz hb hr1 hr3 hbb hB
  show Calls Tryd.prog 94 #[.pointer (some ⟨b, 0, none⟩), .pointer (some ⟨bk, 0, none⟩)] W _
  have hu38 := Tryd.underlying38
  obtain ⟨A, c, rfl⟩ := Kd.R_slice hr1
  unfold formatF
  have HBX := Aside0.mk hb
  have H1 := Aside0.mk hr1
  have H3 := Aside0.mk hr3
  have HB := Aside0.mk hB
  have hbk : bk < w0.heap.size := World.block_lt_of_cell? _ _ hk
  have k0 : W.cell? ⟨bk, 0, none⟩ = some (.int .i64 kind) := (hB.cell hbk).trans hk
  have hne : bk ≠ b := by omega
  have k0' : ∀ u, (W.setCell ⟨b, 2, none⟩ u).cell? ⟨bk, 0, none⟩ = some (.int .i64 kind) := fun u => (cell_far (p := ⟨b, 2, none⟩) hne u).trans k0
  have c1' : ∀ u, (W.setCell ⟨b, 2, none⟩ u).cell? ⟨b, 1, none⟩ = some (.slice A x.ls.length c) := fun u => (blk_cell (blk_put hb 2 u rfl) 1).trans rfl
  have c2 := hb.c2
  have f2 : W.frozen? ⟨b, 2, none⟩ = false := blk_frozen hb 2
  clear hk hb hr1 hr3 hB hm hz hbk hne
  by_cases h0 : x.ls = []
  · have e0 : (x.ls.length == 0) = true := by rw [h0]; rfl
    rw [if_pos h0]
    go_enter Tryd.func94, Tryd.ntmps94
    go_wp2
    go_ret
    refine ⟨_, rfl, blk_put HBX.out 2 _ rfl, Wr.of_R (R_put_ H1.out HBX.out (by decide) 2 _), Wr.of_R (R_put_ H3.out HBX.out (by decide) 2 _), below_set HB.out hbb, fun o cells hne ho => blk_off_ ho hne⟩
  · have e0 : (x.ls.length == 0) = false := by
      have := List.length_pos_iff.2 h0
      exact beq_eq_false_iff_ne.mpr (by omega)
    rw [if_neg h0]
    go_enter Tryd.func94, Tryd.ntmps94
    go_wp2
    go_ret
    refine ⟨_, rfl, blk_put HBX.out 2 _ rfl, Wr.of_R (R_put_ H1.out HBX.out (by decide) 2 _), Wr.of_R (R_put_ H3.out HBX.out (by decide) 2 _), below_set HB.out hbb, fun o cells hne ho => blk_off_ ho hne⟩
set_option maxRecDepth 100000 in
set_option maxHeartbeats 4000000 in
theorem free_turns_ (w0 : World) : Turns_ w0 95 #[] freeF := by
  intro x W b v1 v3 hm hz hb hr1 hr3 hbb hB
  show Calls Tryd.prog 95 #[.pointer (some ⟨b, 0, none⟩)] W _
  have hu38 := Tryd.underlying38
  obtain ⟨A, c, rfl⟩ := Kd.R_slice hr1
  have hmp := (mayL_parts hm).1
  unfold freeF
  have HBX := Aside0.mk hb
  have H1 := Aside0.mk hr1
  have H3 := Aside0.mk hr3
  have HB := Aside0.mk hB
  by_cases h0 : x.ls = []
  · rw [if_pos h0]
    have HL := Aside0.mk (lift_none_ x b _ v3 W hb (Wr.of_R hr1).rd h0)
    have hw : IntKind.i64.wrap (x.q - 1) = x.q - 1 := by rw [i64_w]; unfold wrap64; omega
    have c0 := hb.c0
    have c2 := hb.c2
    have f0 : W.frozen? ⟨b, 0, none⟩ = false := blk_frozen hb 0
    have f2 : W.frozen? ⟨b, 2, none⟩ = false := blk_frozen hb 2
    clear hb hr1 hr3 hB hmp h0 hm hz
    by_cases hk : 0 < x.k
    · have d2 : decide (0 < x.k) = true := decide_eq_true hk
      rw [if_pos hk]
      clear hk
      go_enter Tryd.func95, Tryd.ntmps95
      go_wp2_with (go_at_call 92; refine HL.out.mono ?_; rintro e w' ⟨rfl, ⟨nd, rfl⟩⟩)
      go_ret
      refine ⟨_, rfl, blk_put (blk_drewN HBX.out nd) 2 _ rfl, Wr.of_R (R_put_ (Kd.R_drewN H1.out nd) (blk_drewN HBX.out nd) (by decide) 2 _), Wr.of_R (R_put_ (Kd.R_drewN H3.out nd) (blk_drewN HBX.out nd) (by decide) 2 _), below_set (pw_below_drewN HB.out nd) hbb, fun o cells hne ho => blk_off_ ho hne⟩
    · have d2 : decide (0 < x.k) = false := decide_eq_false hk
      rw [if_neg hk]
      clear hk
      by_cases hq : 0 < x.q
      · have d0 : decide (0 < x.q) = true := decide_eq_true hq
        rw [if_pos hq]
        clear hq
        go_enter Tryd.func95, Tryd.ntmps95
        go_wp2_with (go_at_call 92; refine HL.out.mono ?_; rintro e w' ⟨rfl, ⟨nd, rfl⟩⟩)
        go_ret
        refine ⟨_, rfl, blk_put (blk_drewN HBX.out nd) 0 _ rfl, Wr.of_R (R_put_ (Kd.R_drewN H1.out nd) (blk_drewN HBX.out nd) (by decide) 0 _), Wr.of_R (R_put_ (Kd.R_drewN H3.out nd) (blk_drewN HBX.out nd) (by decide) 0 _), below_set (pw_below_drewN HB.out nd) hbb, fun o cells hne ho => blk_off_ ho hne⟩
      · have d0 : decide (0 < x.q) = false := decide_eq_false hq
        rw [if_neg hq]
        clear hq
        go_enter Tryd.func95, Tryd.ntmps95
        go_wp2_with (go_at_call 92; refine HL.out.mono ?_; rintro e w' ⟨rfl, ⟨nd, rfl⟩⟩)
        go_ret
        refine ⟨_, rfl, blk_drewN HBX.out nd, Wr.of_R (Kd.R_drewN H1.out nd), Wr.of_R (Kd.R_drewN H3.out nd), pw_below_drewN HB.out nd, fun o cells hne ho => ho⟩
  · rw [if_neg h0]
    have hk := lastF_may hm h0
    obtain ⟨n, hn⟩ : ∃ n, n + 1 = x.ls.length := ⟨x.ls.length - 1, by have := List.length_pos_iff.2 h0; omega⟩
    have HL := Aside0.mk (lift_some_ x b n A c v3 W hb (Wr.of_R hr1).rd hn (by omega))
    clear hb hr1 hr3 hB hmp h0 hm hz hk
    go_enter Tryd.func95, Tryd.ntmps95
    go_wp2_with (go_at_call 92; refine HL.out.mono ?_; rintro e w' ⟨rfl, nd, rfl⟩)
    go_ret
    refine ⟨_, rfl, blk_put (blk_drewN HBX.out nd) 1 _ rfl, Wr_shut_ (R_put_ (Kd.R_drewN H1.out nd) (blk_drewN HBX.out nd) (by decide) 1 _) hn, Wr.of_R (R_put_ (Kd.R_drewN H3.out nd) (blk_drewN HBX.out nd) (by decide) 1 _), below_set (pw_below_drewN HB.out nd) hbb, fun o cells hne ho => blk_off_ ho hne⟩
end Go.Proofs.YtgdpknmffohhaaaDoor.Pl
