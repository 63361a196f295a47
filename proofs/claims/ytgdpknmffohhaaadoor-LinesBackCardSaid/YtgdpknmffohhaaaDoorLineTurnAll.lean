/- quillworklaw06.turn: one of the calls; what it may come to. -/
import Derived.Test.YtgdpknmffohhaaaDoorLinePure
namespace Go.Proofs.YtgdpknmffohhaaaDoor.Pl
open Go.RowKit Go.Lib Go.Proofs.YtgdpknmffohhaaaDoorW.PrintWords Go.Proofs.YtgdpknmffohhaaaDoorW.PrintLast Go.Proofs.YtgdpknmffohhaaaDoorW.PrintMore
set_option linter.unusedVariables false
def turnAll (d k : Int) (x : Ln) : Ln × Int :=
  if Go.bits .and .i64 d 7 = 0 then turnR indentF x else if Go.bits .and .i64 d 7 = 1 then turnR outdentF x else if Go.bits .and .i64 d 7 = 2 then listR k x else if Go.bits .and .i64 d 7 = 3 then formatR k x else turnR freeF x
/-- what a turn of a line that may be comes to -/
def Stay_ (x : Ln) (r : Ln × Int) : Prop := (r.2 = 0 ∧ mayL r.1 = true ∧ r.1.cs = x.cs ∧ r.1 ≠ x) ∨ r = (zeroLn, 7) ∨ r = (zeroLn, 1)
theorem stay_of {F : Ln → Bool × Ln} {x : Ln} (hm : mayL x = true) (h : (F x).1 = true → mayL (F x).2 = true ∧ (F x).2.cs = x.cs ∧ (F x).2 ≠ x) : Stay_ x (turnR F x) := by
  unfold turnR
  rw [if_pos hm]
  cases e : (F x).1 with
  | true => rw [if_pos rfl]; exact .inl ⟨rfl, h e⟩
  | false => rw [if_neg (by decide)]; exact .inr (.inl rfl)
theorem ne_len {x y : Ln} (h : x.ls.length ≠ y.ls.length) : x ≠ y := fun e => h (by rw [e])
theorem dropF_len {ls : List Int} (h : ls ≠ []) : (dropF ls).length + 1 = ls.length := by
  have := List.length_pos_iff.2 h
  unfold dropF
  rw [List.length_take]
  omega
theorem dropF_mem {ls : List Int} {k : Int} (h : k ∈ dropF ls) : k ∈ ls := List.mem_of_mem_take h
theorem may_drop {x : Ln} (hm : mayL x = true) (h0 : x.ls ≠ []) : mayL { x with ls := dropF x.ls } = true := by
  obtain ⟨h1, h2, h3⟩ := mayL_parts hm
  have := dropF_len h0
  exact mayL_of (x := { x with ls := dropF x.ls }) ⟨h1.1, h1.2.1, by dsimp only; omega, h1.2.2.2.1, h1.2.2.2.2.1, .inr (by dsimp only; omega)⟩ (fun k hk => h2 k (dropF_mem hk)) h3
theorem stay_indent {x : Ln} (hm : mayL x = true) : Stay_ x (turnR indentF x) := by
  refine stay_of hm (fun h => ?_)
  have hn := nOf_range hm
  have h1 := (mayL_parts hm).1
  have h0 : (0 : Int) < nOf x := by
    unfold indentF at h
    unfold nOf
    by_cases e : x.ls = []
    · rw [if_pos e] at h ⊢
      have := of_decide_eq_true h
      omega
    · rw [if_neg e] at h ⊢
      have := of_decide_eq_true h
      omega
  have hs : (indentF x).2 = indN x 1 := by
    have := ind_step hm 0 (by simpa using h0)
    rw [indN_zero, turnR, if_pos hm, if_pos h] at this
    exact congrArg Prod.fst this
  rw [hs]
  refine ⟨may_indN hm 1 (by omega), indN_cs x 1, fun e => ?_⟩
  unfold indN at e
  by_cases e0 : x.ls = []
  · rw [if_pos e0] at e
    have := congrArg Ln.q e
    dsimp only at this
    omega
  · rw [if_neg e0] at e
    have := congrArg (fun y => y.ls.length) e
    dsimp only at this
    rw [List.length_append, List.length_replicate] at this
    omega
theorem stay_outdent {x : Ln} (hm : mayL x = true) : Stay_ x (turnR outdentF x) := by
  refine stay_of hm (fun h => ?_)
  obtain ⟨h1, h2, h3⟩ := mayL_parts hm
  unfold outdentF at h ⊢
  by_cases e0 : x.ls = []
  · rw [if_pos e0] at h ⊢
    have := of_decide_eq_true h
    refine ⟨mayL_of (x := { x with q := x.q - 1 }) ⟨by dsimp only; omega, by dsimp only; omega, h1.2.2⟩ h2 h3, rfl, fun e => ?_⟩
    have := congrArg Ln.q e
    dsimp only at this
    omega
  · rw [if_neg e0]
    exact ⟨may_drop hm e0, rfl, ne_len (by have := dropF_len e0; dsimp only; omega)⟩
theorem stay_list {x : Ln} (hm : mayL x = true) (k : Int) : Stay_ x (listR k x) := by
  unfold listR
  by_cases hk : k = 0 ∨ k = 1
  · rw [if_pos hk]
    refine stay_of hm (fun h => ?_)
    obtain ⟨h1, h2, h3⟩ := mayL_parts hm
    unfold listF at h ⊢
    by_cases e0 : x.ls = []
    · rw [if_pos e0]
      exact ⟨mayL_of (x := { x with ls := [k], k := 0 }) ⟨h1.1, h1.2.1, by simp, by simp, by simp, by simp⟩ (fun z hz => by simp at hz; subst hz; exact hk) h3, rfl, ne_len (by rw [e0]; simp)⟩
    · rw [if_neg e0] at h ⊢
      have hne := bne_iff_ne.mp h
      obtain ⟨l, a, e⟩ := snoc_of_ne e0
      refine ⟨mayL_of (x := { x with ls := x.ls.set (x.ls.length - 1) k }) ⟨h1.1, h1.2.1, by dsimp only; rw [List.length_set]; omega, h1.2.2.2.1, h1.2.2.2.2.1, by dsimp only; rw [List.length_set]; exact h1.2.2.2.2.2⟩ (fun z hz => ?_) h3, rfl, fun e1 => ?_⟩
      · rcases List.mem_or_eq_of_mem_set hz with hz | hz
        · exact h2 z hz
        · rw [hz]; exact hk
      · have e2 := congrArg Ln.ls e1
        dsimp only at e2
        rw [e, lastF_snoc] at hne
        rw [e, List.length_append, List.length_singleton, Nat.add_sub_cancel, List.set_append_right _ _ (Nat.le_refl _), Nat.sub_self] at e2
        have := List.append_cancel_left e2
        simp at this
        exact hne this.symm
  · rw [if_neg hk]
    exact .inr (.inr rfl)
theorem stay_format {x : Ln} (hm : mayL x = true) (k : Int) : Stay_ x (formatR k x) := by
  unfold formatR
  by_cases hk : 0 ≤ k ∧ k ≤ 3
  · rw [if_pos hk]
    refine stay_of hm (fun h => ?_)
    obtain ⟨h1, h2, h3⟩ := mayL_parts hm
    unfold formatF at h ⊢
    by_cases e0 : x.ls = []
    · dsimp only at h
      rw [if_pos e0] at h
      have hne := bne_iff_ne.mp h
      refine ⟨mayL_of (x := { x with k := k }) ⟨h1.1, h1.2.1, h1.2.2.1, hk.1, hk.2, .inl (by dsimp only; rw [e0]; rfl)⟩ h2 h3, rfl, fun e => ?_⟩
      have := congrArg Ln.k e
      dsimp only at this
      exact hne this.symm
    · dsimp only at h
      rw [if_neg e0] at h
      exact absurd h (by decide)
  · rw [if_neg hk]
    exact .inr (.inr rfl)
theorem stay_free {x : Ln} (hm : mayL x = true) : Stay_ x (turnR freeF x) := by
  refine stay_of hm (fun h => ?_)
  obtain ⟨h1, h2, h3⟩ := mayL_parts hm
  unfold freeF at h ⊢
  by_cases e0 : x.ls = []
  · rw [if_pos e0] at h ⊢
    by_cases hk : 0 < x.k
    · rw [if_pos hk]
      refine ⟨mayL_of (x := { x with k := 0 }) ⟨h1.1, h1.2.1, h1.2.2.1, by simp, by simp, by simp⟩ h2 h3, rfl, fun e => ?_⟩
      have := congrArg Ln.k e
      dsimp only at this
      omega
    · rw [if_neg hk] at h ⊢
      by_cases hq : 0 < x.q
      · rw [if_pos hq]
        refine ⟨mayL_of (x := { x with q := x.q - 1 }) ⟨by dsimp only; omega, by dsimp only; omega, h1.2.2⟩ h2 h3, rfl, fun e => ?_⟩
        have := congrArg Ln.q e
        dsimp only at this
        omega
      · rw [if_neg hq] at h
        exact absurd h (by simp)
  · rw [if_neg e0]
    exact ⟨may_drop hm e0, rfl, ne_len (by have := dropF_len e0; dsimp only; omega)⟩
theorem stay_turn {x : Ln} (hm : mayL x = true) (d k : Int) : Stay_ x (turnAll d k x) := by
  unfold turnAll
  split
  · exact stay_indent hm
  · split
    · exact stay_outdent hm
    · split
      · exact stay_list hm k
      · split
        · exact stay_format hm k
        · exact stay_free hm
set_option maxRecDepth 100000 in
set_option maxHeartbeats 8000000 in
theorem turn_calls_ (d k : Int) (x : Ln) (v : Value) (w : World) (hx : RdL w v x) (hz : Sz x) (hG : Gl_ w) :
    Calls Tryd.prog 52 #[v, .int .i64 d, .int .i64 k] w fun e w' => Back_ w (turnAll d k x) e w' := by
  have hu38 := Tryd.underlying38
  obtain ⟨_, _, rfl, ⟨A1, c1, rfl, h1, hc1⟩, ⟨A3, c3, rfl, h3, hc3⟩⟩ := hx
  have hX : RdL w (.agg #[.int .i64 x.q, .slice A1 x.ls.length c1, .int .i64 x.k, .slice A3 x.cs.length c3]) x := ⟨_, _, rfl, ⟨A1, c1, rfl, h1, hc1⟩, ⟨A3, c3, rfl, h3, hc3⟩⟩
  have H0 := Aside0.mk (fun W (hW : Below w.heap.size w W) => indent_calls_ x _ W (hX.below hW) hz (hG.below hW))
  have H1 := Aside0.mk (fun W (hW : Below w.heap.size w W) => outdent_calls_ x _ W (hX.below hW) hz (hG.below hW))
  have H2 := Aside0.mk (fun W (hW : Below w.heap.size w W) => list_calls_ k x _ W (hX.below hW) hz (hG.below hW))
  have H3 := Aside0.mk (fun W (hW : Below w.heap.size w W) => format_calls_ k x _ W (hX.below hW) hz (hG.below hW))
  have H4 := Aside0.mk (fun W (hW : Below w.heap.size w W) => free_calls_ x _ W (hX.below hW) hz (hG.below hW))
  obtain ⟨F1, F2, FB⟩ := two_boxes_ w (.cells #[.int .i64 x.q, .slice A1 x.ls.length c1, .int .i64 x.k, .slice A3 x.cs.length c3] 38) (.cells #[.int .i64 0, .slice none 0 0, .int .i64 0, .slice none 0 0] 38)
  clear h1 h3 hc1 hc3 hz hG hX
  unfold turnAll
  obtain ⟨t, ht⟩ : ∃ t, Go.bits .and .i64 d 7 = t := ⟨_, rfl⟩
  rw [ht]
  by_cases t0 : t = 0
  · have e0_ : (t == 0) = true := beq_iff_eq.mpr t0
    rw [if_pos t0]
    clear t0
    generalize turnR indentF x = r at H0 ⊢
    obtain ⟨y, ey⟩ := r
    go_enter Tryd.func52, Tryd.ntmps52
    go_upto_region 1 with (fail)
    generalize (w.alloc (.cells #[.int .i64 x.q, .slice A1 x.ls.length c1, .int .i64 x.k, .slice A3 x.cs.length c3] 38)).alloc (.cells #[.int .i64 0, .slice none 0 0, .int .i64 0, .slice none 0 0] 38) = W0 at F1 F2 FB ⊢
    have p0 : W0.cell? ⟨w.heap.size, 0, none⟩ = some (.int .i64 x.q) := (blk_cell F1 0).trans rfl
    have p1 : W0.cell? ⟨w.heap.size, 1, none⟩ = some (.slice A1 x.ls.length c1) := (blk_cell F1 1).trans rfl
    have p2 : W0.cell? ⟨w.heap.size, 2, none⟩ = some (.int .i64 x.k) := (blk_cell F1 2).trans rfl
    have p3 : W0.cell? ⟨w.heap.size, 3, none⟩ = some (.slice A3 x.cs.length c3) := (blk_cell F1 3).trans rfl
    have HF2 := Aside0.mk F2
    have HFB := Aside0.mk FB
    clear F1 F2 FB
    go_wp2_with (go_at_call 42; refine (H0.out _ HFB.out).mono ?_; rintro e w1 hbk; obtain ⟨B1, d1, B3, d3, rfl, hw, hb⟩ := hbk.low (w := w); have HW := Aside0.mk hw; have HB1 := Aside0.mk hb; have fb := blk_below HF2.out hb; have b0 : w1.cell? ⟨w.heap.size + 1, 0, none⟩ = some (.int .i64 0) := (blk_cell fb 0).trans rfl; have be0 : w1.frozen? ⟨w.heap.size + 1, 0, none⟩ = false := blk_frozen fb 0; have b1 : w1.cell? ⟨w.heap.size + 1, 1, none⟩ = some (.slice none 0 0) := (blk_cell fb 1).trans rfl; have be1 : w1.frozen? ⟨w.heap.size + 1, 1, none⟩ = false := blk_frozen fb 1; have b2 : w1.cell? ⟨w.heap.size + 1, 2, none⟩ = some (.int .i64 0) := (blk_cell fb 2).trans rfl; have be2 : w1.frozen? ⟨w.heap.size + 1, 2, none⟩ = false := blk_frozen fb 2; have b3 : w1.cell? ⟨w.heap.size + 1, 3, none⟩ = some (.slice none 0 0) := (blk_cell fb 3).trans rfl; have be3 : w1.frozen? ⟨w.heap.size + 1, 3, none⟩ = false := blk_frozen fb 3; have FBX := Aside0.mk fb; clear hw hb fb)
    refine bodyPost_ret (results_ct rfl _ _ (w.heap.size + 1) 38 #[.int .i64 y.q, .slice B1 y.ls.length d1, .int .i64 y.k, .slice B3 y.cs.length d3] (0, 0) _ rfl (put4_blk FBX.out) Tryd.underlying38 rfl (by kernel_rfl)) rfl ?_
    exact ⟨_, rfl, put4_WrL (HW.out.lower (below_size HFB.out)) FBX.out, put4_below (below_step HFB.out HB1.out) (by omega)⟩
  have e0_ : (t == 0) = false := beq_eq_false_iff_ne.mpr t0
  rw [if_neg t0]
  clear t0
  by_cases t1 : t = 1
  · have e1_ : (t == 1) = true := beq_iff_eq.mpr t1
    rw [if_pos t1]
    clear t1
    generalize turnR outdentF x = r at H1 ⊢
    obtain ⟨y, ey⟩ := r
    go_enter Tryd.func52, Tryd.ntmps52
    go_upto_region 1 with (fail)
    generalize (w.alloc (.cells #[.int .i64 x.q, .slice A1 x.ls.length c1, .int .i64 x.k, .slice A3 x.cs.length c3] 38)).alloc (.cells #[.int .i64 0, .slice none 0 0, .int .i64 0, .slice none 0 0] 38) = W0 at F1 F2 FB ⊢
    have p0 : W0.cell? ⟨w.heap.size, 0, none⟩ = some (.int .i64 x.q) := (blk_cell F1 0).trans rfl
    have p1 : W0.cell? ⟨w.heap.size, 1, none⟩ = some (.slice A1 x.ls.length c1) := (blk_cell F1 1).trans rfl
    have p2 : W0.cell? ⟨w.heap.size, 2, none⟩ = some (.int .i64 x.k) := (blk_cell F1 2).trans rfl
    have p3 : W0.cell? ⟨w.heap.size, 3, none⟩ = some (.slice A3 x.cs.length c3) := (blk_cell F1 3).trans rfl
    have HF2 := Aside0.mk F2
    have HFB := Aside0.mk FB
    clear F1 F2 FB
    go_wp2_with (go_at_call 43; refine (H1.out _ HFB.out).mono ?_; rintro e w1 hbk; obtain ⟨B1, d1, B3, d3, rfl, hw, hb⟩ := hbk.low (w := w); have HW := Aside0.mk hw; have HB1 := Aside0.mk hb; have fb := blk_below HF2.out hb; have b0 : w1.cell? ⟨w.heap.size + 1, 0, none⟩ = some (.int .i64 0) := (blk_cell fb 0).trans rfl; have be0 : w1.frozen? ⟨w.heap.size + 1, 0, none⟩ = false := blk_frozen fb 0; have b1 : w1.cell? ⟨w.heap.size + 1, 1, none⟩ = some (.slice none 0 0) := (blk_cell fb 1).trans rfl; have be1 : w1.frozen? ⟨w.heap.size + 1, 1, none⟩ = false := blk_frozen fb 1; have b2 : w1.cell? ⟨w.heap.size + 1, 2, none⟩ = some (.int .i64 0) := (blk_cell fb 2).trans rfl; have be2 : w1.frozen? ⟨w.heap.size + 1, 2, none⟩ = false := blk_frozen fb 2; have b3 : w1.cell? ⟨w.heap.size + 1, 3, none⟩ = some (.slice none 0 0) := (blk_cell fb 3).trans rfl; have be3 : w1.frozen? ⟨w.heap.size + 1, 3, none⟩ = false := blk_frozen fb 3; have FBX := Aside0.mk fb; clear hw hb fb)
    refine bodyPost_ret (results_ct rfl _ _ (w.heap.size + 1) 38 #[.int .i64 y.q, .slice B1 y.ls.length d1, .int .i64 y.k, .slice B3 y.cs.length d3] (0, 0) _ rfl (put4_blk FBX.out) Tryd.underlying38 rfl (by kernel_rfl)) rfl ?_
    exact ⟨_, rfl, put4_WrL (HW.out.lower (below_size HFB.out)) FBX.out, put4_below (below_step HFB.out HB1.out) (by omega)⟩
  have e1_ : (t == 1) = false := beq_eq_false_iff_ne.mpr t1
  rw [if_neg t1]
  clear t1
  by_cases t2 : t = 2
  · have e2_ : (t == 2) = true := beq_iff_eq.mpr t2
    rw [if_pos t2]
    clear t2
    generalize listR k x = r at H2 ⊢
    obtain ⟨y, ey⟩ := r
    go_enter Tryd.func52, Tryd.ntmps52
    go_upto_region 1 with (fail)
    generalize (w.alloc (.cells #[.int .i64 x.q, .slice A1 x.ls.length c1, .int .i64 x.k, .slice A3 x.cs.length c3] 38)).alloc (.cells #[.int .i64 0, .slice none 0 0, .int .i64 0, .slice none 0 0] 38) = W0 at F1 F2 FB ⊢
    have p0 : W0.cell? ⟨w.heap.size, 0, none⟩ = some (.int .i64 x.q) := (blk_cell F1 0).trans rfl
    have p1 : W0.cell? ⟨w.heap.size, 1, none⟩ = some (.slice A1 x.ls.length c1) := (blk_cell F1 1).trans rfl
    have p2 : W0.cell? ⟨w.heap.size, 2, none⟩ = some (.int .i64 x.k) := (blk_cell F1 2).trans rfl
    have p3 : W0.cell? ⟨w.heap.size, 3, none⟩ = some (.slice A3 x.cs.length c3) := (blk_cell F1 3).trans rfl
    have HF2 := Aside0.mk F2
    have HFB := Aside0.mk FB
    clear F1 F2 FB
    go_wp2_with (go_at_call 46; refine (H2.out _ HFB.out).mono ?_; rintro e w1 hbk; obtain ⟨B1, d1, B3, d3, rfl, hw, hb⟩ := hbk.low (w := w); have HW := Aside0.mk hw; have HB1 := Aside0.mk hb; have fb := blk_below HF2.out hb; have b0 : w1.cell? ⟨w.heap.size + 1, 0, none⟩ = some (.int .i64 0) := (blk_cell fb 0).trans rfl; have be0 : w1.frozen? ⟨w.heap.size + 1, 0, none⟩ = false := blk_frozen fb 0; have b1 : w1.cell? ⟨w.heap.size + 1, 1, none⟩ = some (.slice none 0 0) := (blk_cell fb 1).trans rfl; have be1 : w1.frozen? ⟨w.heap.size + 1, 1, none⟩ = false := blk_frozen fb 1; have b2 : w1.cell? ⟨w.heap.size + 1, 2, none⟩ = some (.int .i64 0) := (blk_cell fb 2).trans rfl; have be2 : w1.frozen? ⟨w.heap.size + 1, 2, none⟩ = false := blk_frozen fb 2; have b3 : w1.cell? ⟨w.heap.size + 1, 3, none⟩ = some (.slice none 0 0) := (blk_cell fb 3).trans rfl; have be3 : w1.frozen? ⟨w.heap.size + 1, 3, none⟩ = false := blk_frozen fb 3; have FBX := Aside0.mk fb; clear hw hb fb)
    refine bodyPost_ret (results_ct rfl _ _ (w.heap.size + 1) 38 #[.int .i64 y.q, .slice B1 y.ls.length d1, .int .i64 y.k, .slice B3 y.cs.length d3] (0, 0) _ rfl (put4_blk FBX.out) Tryd.underlying38 rfl (by kernel_rfl)) rfl ?_
    exact ⟨_, rfl, put4_WrL (HW.out.lower (below_size HFB.out)) FBX.out, put4_below (below_step HFB.out HB1.out) (by omega)⟩
  have e2_ : (t == 2) = false := beq_eq_false_iff_ne.mpr t2
  rw [if_neg t2]
  clear t2
  by_cases t3 : t = 3
  · have e3_ : (t == 3) = true := beq_iff_eq.mpr t3
    rw [if_pos t3]
    clear t3
    generalize formatR k x = r at H3 ⊢
    obtain ⟨y, ey⟩ := r
    go_enter Tryd.func52, Tryd.ntmps52
    go_upto_region 1 with (fail)
    generalize (w.alloc (.cells #[.int .i64 x.q, .slice A1 x.ls.length c1, .int .i64 x.k, .slice A3 x.cs.length c3] 38)).alloc (.cells #[.int .i64 0, .slice none 0 0, .int .i64 0, .slice none 0 0] 38) = W0 at F1 F2 FB ⊢
    have p0 : W0.cell? ⟨w.heap.size, 0, none⟩ = some (.int .i64 x.q) := (blk_cell F1 0).trans rfl
    have p1 : W0.cell? ⟨w.heap.size, 1, none⟩ = some (.slice A1 x.ls.length c1) := (blk_cell F1 1).trans rfl
    have p2 : W0.cell? ⟨w.heap.size, 2, none⟩ = some (.int .i64 x.k) := (blk_cell F1 2).trans rfl
    have p3 : W0.cell? ⟨w.heap.size, 3, none⟩ = some (.slice A3 x.cs.length c3) := (blk_cell F1 3).trans rfl
    have HF2 := Aside0.mk F2
    have HFB := Aside0.mk FB
    clear F1 F2 FB
    go_wp2_with (go_at_call 48; refine (H3.out _ HFB.out).mono ?_; rintro e w1 hbk; obtain ⟨B1, d1, B3, d3, rfl, hw, hb⟩ := hbk.low (w := w); have HW := Aside0.mk hw; have HB1 := Aside0.mk hb; have fb := blk_below HF2.out hb; have b0 : w1.cell? ⟨w.heap.size + 1, 0, none⟩ = some (.int .i64 0) := (blk_cell fb 0).trans rfl; have be0 : w1.frozen? ⟨w.heap.size + 1, 0, none⟩ = false := blk_frozen fb 0; have b1 : w1.cell? ⟨w.heap.size + 1, 1, none⟩ = some (.slice none 0 0) := (blk_cell fb 1).trans rfl; have be1 : w1.frozen? ⟨w.heap.size + 1, 1, none⟩ = false := blk_frozen fb 1; have b2 : w1.cell? ⟨w.heap.size + 1, 2, none⟩ = some (.int .i64 0) := (blk_cell fb 2).trans rfl; have be2 : w1.frozen? ⟨w.heap.size + 1, 2, none⟩ = false := blk_frozen fb 2; have b3 : w1.cell? ⟨w.heap.size + 1, 3, none⟩ = some (.slice none 0 0) := (blk_cell fb 3).trans rfl; have be3 : w1.frozen? ⟨w.heap.size + 1, 3, none⟩ = false := blk_frozen fb 3; have FBX := Aside0.mk fb; clear hw hb fb)
    refine bodyPost_ret (results_ct rfl _ _ (w.heap.size + 1) 38 #[.int .i64 y.q, .slice B1 y.ls.length d1, .int .i64 y.k, .slice B3 y.cs.length d3] (0, 0) _ rfl (put4_blk FBX.out) Tryd.underlying38 rfl (by kernel_rfl)) rfl ?_
    exact ⟨_, rfl, put4_WrL (HW.out.lower (below_size HFB.out)) FBX.out, put4_below (below_step HFB.out HB1.out) (by omega)⟩
  have e3_ : (t == 3) = false := beq_eq_false_iff_ne.mpr t3
  rw [if_neg t3]
  clear t3
  generalize turnR freeF x = r at H4 ⊢
  obtain ⟨y, ey⟩ := r
  go_enter Tryd.func52, Tryd.ntmps52
  go_upto_region 1 with (fail)
  generalize (w.alloc (.cells #[.int .i64 x.q, .slice A1 x.ls.length c1, .int .i64 x.k, .slice A3 x.cs.length c3] 38)).alloc (.cells #[.int .i64 0, .slice none 0 0, .int .i64 0, .slice none 0 0] 38) = W0 at F1 F2 FB ⊢
  have p0 : W0.cell? ⟨w.heap.size, 0, none⟩ = some (.int .i64 x.q) := (blk_cell F1 0).trans rfl
  have p1 : W0.cell? ⟨w.heap.size, 1, none⟩ = some (.slice A1 x.ls.length c1) := (blk_cell F1 1).trans rfl
  have p2 : W0.cell? ⟨w.heap.size, 2, none⟩ = some (.int .i64 x.k) := (blk_cell F1 2).trans rfl
  have p3 : W0.cell? ⟨w.heap.size, 3, none⟩ = some (.slice A3 x.cs.length c3) := (blk_cell F1 3).trans rfl
  have HF2 := Aside0.mk F2
  have HFB := Aside0.mk FB
  clear F1 F2 FB
  go_wp2_with (go_at_call 50; refine (H4.out _ HFB.out).mono ?_; rintro e w1 hbk; obtain ⟨B1, d1, B3, d3, rfl, hw, hb⟩ := hbk.low (w := w); have HW := Aside0.mk hw; have HB1 := Aside0.mk hb; have fb := blk_below HF2.out hb; have b0 : w1.cell? ⟨w.heap.size + 1, 0, none⟩ = some (.int .i64 0) := (blk_cell fb 0).trans rfl; have be0 : w1.frozen? ⟨w.heap.size + 1, 0, none⟩ = false := blk_frozen fb 0; have b1 : w1.cell? ⟨w.heap.size + 1, 1, none⟩ = some (.slice none 0 0) := (blk_cell fb 1).trans rfl; have be1 : w1.frozen? ⟨w.heap.size + 1, 1, none⟩ = false := blk_frozen fb 1; have b2 : w1.cell? ⟨w.heap.size + 1, 2, none⟩ = some (.int .i64 0) := (blk_cell fb 2).trans rfl; have be2 : w1.frozen? ⟨w.heap.size + 1, 2, none⟩ = false := blk_frozen fb 2; have b3 : w1.cell? ⟨w.heap.size + 1, 3, none⟩ = some (.slice none 0 0) := (blk_cell fb 3).trans rfl; have be3 : w1.frozen? ⟨w.heap.size + 1, 3, none⟩ = false := blk_frozen fb 3; have FBX := Aside0.mk fb; clear hw hb fb)
  refine bodyPost_ret (results_ct rfl _ _ (w.heap.size + 1) 38 #[.int .i64 y.q, .slice B1 y.ls.length d1, .int .i64 y.k, .slice B3 y.cs.length d3] (0, 0) _ rfl (put4_blk FBX.out) Tryd.underlying38 rfl (by kernel_rfl)) rfl ?_
  exact ⟨_, rfl, put4_WrL (HW.out.lower (below_size HFB.out)) FBX.out, put4_below (below_step HFB.out HB1.out) (by omega)⟩
end Go.Proofs.YtgdpknmffohhaaaDoor.Pl
