/- Printed texts, and given ones, of the seat's functions, in one file. -/
import Derived.Test.YtgdpknmffohhaaaDoorM0
import Derived.Lib.MapLaws
/- quillworklaw06.turn: one of the calls; what it may come to. -/
namespace Go.Proofs.YtgdpknmffohhaaaDoor.Pl
open Go.RowKit Go.Lib Go.Proofs.YtgdpknmffohhaaaDoorW.PrintWords Go.Proofs.YtgdpknmffohhaaaDoorW.PrintLast Go.Proofs.YtgdpknmffohhaaaDoorW.PrintMore
set_option linter.unusedVariables false
/-- what a turn of a line that may be comes to -/
def Stay_ (x : Ln) (r : Ln × Int) : Prop := (r.2 = 0 ∧ mayL r.1 = true ∧ r.1.cs = x.cs ∧ r.1 ≠ x) ∨ r = (zeroLn, 7) ∨ r = (zeroLn, 1)
theorem stay_of {F : Ln → Bool × Ln} {x : Ln} (hm : mayL x = true) (h : (F x).1 = true → mayL (F x).2 = true ∧ (F x).2.cs = x.cs ∧ (F x).2 ≠ x) : Stay_ x (turnR F x) := by
  unfold turnR
  rw [if_pos hm]
  cases e : (F x).1 with
  | true => rw [if_pos rfl]; exact .inl ⟨rfl, h e⟩
  | false => rw [if_neg (by decide)]; exact .inr (.inl rfl)
theorem ne_len {x y : Ln} (h : x.ls.length ≠ y.ls.length) : x ≠ y := fun e => h (by rw [e])
theorem dropF_len {ls : List Int} (h : ls ≠ []) : (dropF ls).length + 1 = ls.length := by
  have := List.length_pos_iff.2 h
  unfold dropF
  rw [List.length_take]
  omega
theorem dropF_mem {ls : List Int} {k : Int} (h : k ∈ dropF ls) : k ∈ ls := List.mem_of_mem_take h
theorem may_drop {x : Ln} (hm : mayL x = true) (h0 : x.ls ≠ []) : mayL { x with ls := dropF x.ls } = true := by
  obtain ⟨h1, h2, h3⟩ := mayL_parts hm
  have := dropF_len h0
  exact mayL_of (x := { x with ls := dropF x.ls }) ⟨h1.1, h1.2.1, by dsimp only; omega, h1.2.2.2.1, h1.2.2.2.2.1, .inr (by dsimp only; omega)⟩ (fun k hk => h2 k (dropF_mem hk)) h3
theorem stay_indent {x : Ln} (hm : mayL x = true) : Stay_ x (turnR indentF x) := by
  refine stay_of hm (fun h => ?_)
  have hn := nOf_range hm
  have h1 := (mayL_parts hm).1
  have h0 : (0 : Int) < nOf x := by
    unfold indentF at h
    unfold nOf
    by_cases e : x.ls = []
    · rw [if_pos e] at h ⊢
      have := of_decide_eq_true h
      omega
    · rw [if_neg e] at h ⊢
      have := of_decide_eq_true h
      omega
  have hs : (indentF x).2 = indN x 1 := by
    have := ind_step hm 0 (by simpa using h0)
    rw [indN_zero, turnR, if_pos hm, if_pos h] at this
    exact congrArg Prod.fst this
  rw [hs]
  refine ⟨may_indN hm 1 (by omega), indN_cs x 1, fun e => ?_⟩
  unfold indN at e
  by_cases e0 : x.ls = []
  · rw [if_pos e0] at e
    have := congrArg Ln.q e
    dsimp only at this
    omega
  · rw [if_neg e0] at e
    have := congrArg (fun y => y.ls.length) e
    dsimp only at this
    rw [List.length_append, List.length_replicate] at this
    omega
theorem stay_outdent {x : Ln} (hm : mayL x = true) : Stay_ x (turnR outdentF x) := by
  refine stay_of hm (fun h => ?_)
  obtain ⟨h1, h2, h3⟩ := mayL_parts hm
  unfold outdentF at h ⊢
  by_cases e0 : x.ls = []
  · rw [if_pos e0] at h ⊢
    have := of_decide_eq_true h
    refine ⟨mayL_of (x := { x with q := x.q - 1 }) ⟨by dsimp only; omega, by dsimp only; omega, h1.2.2⟩ h2 h3, rfl, fun e => ?_⟩
    have := congrArg Ln.q e
    dsimp only at this
    omega
  · rw [if_neg e0]
    exact ⟨may_drop hm e0, rfl, ne_len (by have := dropF_len e0; dsimp only; omega)⟩
theorem stay_list {x : Ln} (hm : mayL x = true) (k : Int) : Stay_ x (listR k x) := by
  unfold listR
  by_cases hk : k = 0 ∨ k = 1
  · rw [if_pos hk]
    refine stay_of hm (fun h => ?_)
    obtain ⟨h1, h2, h3⟩ := mayL_parts hm
    unfold listF at h ⊢
    by_cases e0 : x.ls = []
    · rw [if_pos e0]
      exact ⟨mayL_of (x := { x with ls := [k], k := 0 }) ⟨h1.1, h1.2.1, by simp, by simp, by simp, by simp⟩ (fun z hz => by simp at hz; subst hz; exact hk) h3, rfl, ne_len (by rw [e0]; simp)⟩
    · rw [if_neg e0] at h ⊢
      have hne := bne_iff_ne.mp h
      obtain ⟨l, a, e⟩ := snoc_of_ne e0
      refine ⟨mayL_of (x := { x with ls := x.ls.set (x.ls.length - 1) k }) ⟨h1.1, h1.2.1, by dsimp only; rw [List.length_set]; omega, h1.2.2.2.1, h1.2.2.2.2.1, by dsimp only; rw [List.length_set]; exact h1.2.2.2.2.2⟩ (fun z hz => ?_) h3, rfl, fun e1 => ?_⟩
      · rcases List.mem_or_eq_of_mem_set hz with hz | hz
        · exact h2 z hz
        · rw [hz]; exact hk
      · have e2 := congrArg Ln.ls e1
        dsimp only at e2
        rw [e, lastF_snoc] at hne
        rw [e, List.length_append, List.length_singleton, Nat.add_sub_cancel, List.set_append_right _ _ (Nat.le_refl _), Nat.sub_self] at e2
        have := List.append_cancel_left e2
        simp at this
        exact hne this.symm
  · rw [if_neg hk]
    exact .inr (.inr rfl)
theorem stay_format {x : Ln} (hm : mayL x = true) (k : Int) : Stay_ x (formatR k x) := by
  unfold formatR
  by_cases hk : 0 ≤ k ∧ k ≤ 3
  · rw [if_pos hk]
    refine stay_of hm (fun h => ?_)
    obtain ⟨h1, h2, h3⟩ := mayL_parts hm
    unfold formatF at h ⊢
    by_cases e0 : x.ls = []
    · dsimp only at h
      rw [if_pos e0] at h
      have hne := bne_iff_ne.mp h
      refine ⟨mayL_of (x := { x with k := k }) ⟨h1.1, h1.2.1, h1.2.2.1, hk.1, hk.2, .inl (by dsimp only; rw [e0]; rfl)⟩ h2 h3, rfl, fun e => ?_⟩
      have := congrArg Ln.k e
      dsimp only at this
      exact hne this.symm
    · dsimp only at h
      rw [if_neg e0] at h
      exact absurd h (by decide)
  · rw [if_neg hk]
    exact .inr (.inr rfl)
theorem stay_free {x : Ln} (hm : mayL x = true) : Stay_ x (turnR freeF x) := by
  refine stay_of hm (fun h => ?_)
  obtain ⟨h1, h2, h3⟩ := mayL_parts hm
  unfold freeF at h ⊢
  by_cases e0 : x.ls = []
  · rw [if_pos e0] at h ⊢
    by_cases hk : 0 < x.k
    · rw [if_pos hk]
      refine ⟨mayL_of (x := { x with k := 0 }) ⟨h1.1, h1.2.1, h1.2.2.1, by simp, by simp, by simp⟩ h2 h3, rfl, fun e => ?_⟩
      have := congrArg Ln.k e
      dsimp only at this
      omega
    · rw [if_neg hk] at h ⊢
      by_cases hq : 0 < x.q
      · rw [if_pos hq]
        refine ⟨mayL_of (x := { x with q := x.q - 1 }) ⟨by dsimp only; omega, by dsimp only; omega, h1.2.2⟩ h2 h3, rfl, fun e => ?_⟩
        have := congrArg Ln.q e
        dsimp only at this
        omega
      · rw [if_neg hq] at h
        exact absurd h (by simp)
  · rw [if_neg e0]
    exact ⟨may_drop hm e0, rfl, ne_len (by have := dropF_len e0; dsimp only; omega)⟩
end Go.Proofs.YtgdpknmffohhaaaDoor.Pl

/- How long an answer of chapter 06 may be. -/
namespace Go.Proofs.YtgdpknmffohhaaaDoor.Pl
open Go.RowKit Go.Lib Go.Proofs.YtgdpknmffohhaaaDoorW.PrintWords Go.Proofs.YtgdpknmffohhaaaDoorW.PrintLast Go.Proofs.YtgdpknmffohhaaaDoorW.PrintMore
theorem Sz_zero : Sz zeroLn := ⟨by decide, by decide, fun c hc => by cases hc⟩
theorem Sz_stay {x : Ln} {r : Ln × Int} (hz : Sz x) (h : Stay_ x r) : Sz r.1 := by
  rcases h with ⟨_, h1, h2, _⟩ | h1 | h1
  · exact Sz_of hz h1 h2
  · rw [h1]; exact Sz_zero
  · rw [h1]; exact Sz_zero
theorem turnR_not {F : Ln → Bool × Ln} {x : Ln} (hm : mayL x = false) : turnR F x = (zeroLn, 1) := by
  unfold turnR
  rw [if_neg (by rw [hm]; decide)]
theorem Sz_indent {x : Ln} (hz : Sz x) : Sz (turnR indentF x).1 := by
  cases hm : mayL x with
  | true => exact Sz_stay hz (stay_indent hm)
  | false => rw [turnR_not hm]; exact Sz_zero
theorem Sz_outdent {x : Ln} (hz : Sz x) : Sz (turnR outdentF x).1 := by
  cases hm : mayL x with
  | true => exact Sz_stay hz (stay_outdent hm)
  | false => rw [turnR_not hm]; exact Sz_zero
theorem Sz_free {x : Ln} (hz : Sz x) : Sz (turnR freeF x).1 := by
  cases hm : mayL x with
  | true => exact Sz_stay hz (stay_free hm)
  | false => rw [turnR_not hm]; exact Sz_zero
theorem Sz_list {x : Ln} (hz : Sz x) (k : Int) : Sz (listR k x).1 := by
  cases hm : mayL x with
  | true => exact Sz_stay hz (stay_list hm k)
  | false =>
    unfold listR
    split
    · rw [turnR_not hm]; exact Sz_zero
    · exact Sz_zero
theorem Sz_format {x : Ln} (hz : Sz x) (k : Int) : Sz (formatR k x).1 := by
  cases hm : mayL x with
  | true => exact Sz_stay hz (stay_format hm k)
  | false =>
    unfold formatR
    split
    · rw [turnR_not hm]; exact Sz_zero
    · exact Sz_zero
end Go.Proofs.YtgdpknmffohhaaaDoor.Pl

namespace Go.Proofs.YtgdpknmffohhaaaDoor.Pl
open Go.RowKit Go.Proofs.YtgdpknmffohhaaaDoorW.PrintWords Go.Proofs.YtgdpknmffohhaaaDoorW.PrintLast Go.Proofs.YtgdpknmffohhaaaDoorW.PrintMore
attribute [local go_sem] max2_int min2_int max_two min_two max_three min_three max_four min_four   -- for this text's walks alone
set_option linter.unusedVariables false
set_option linter.unusedSimpArgs false

/-! ### quillworkref01_Class: function 136 -/
mutual
def quillworkref01_Class.j0 : Nat → Int → Bool → Option (Int)
  | 0, _, _ => none
  | k + 1, x0, x16 => if x16 = true then (some 0) else (if x0 < 32 then (quillworkref01_Class.j1 k x0 true) else (quillworkref01_Class.j1 k x0 (x0 == 127)))
def quillworkref01_Class.j1 : Nat → Int → Bool → Option (Int)
  | 0, _, _ => none
  | k + 1, x0, x22 => if x22 = true then (some 1) else (if x0 = 32 then (quillworkref01_Class.j2 k x0 true) else (quillworkref01_Class.j2 k x0 (x0 == 160)))
def quillworkref01_Class.j2 : Nat → Int → Bool → Option (Int)
  | 0, _, _ => none
  | k + 1, x0, x28 => if x28 = true then (some 2) else (if x0 ≥ 97 then (if x0 ≤ 122 then (quillworkref01_Class.j3 k x0 true) else (if x0 ≥ 65 then (if x0 ≤ 90 then (quillworkref01_Class.j3 k x0 true) else (if x0 ≥ 128 then (quillworkref01_Class.j3 k x0 (x0 != 65533)) else (quillworkref01_Class.j3 k x0 false))) else (if x0 ≥ 128 then (quillworkref01_Class.j3 k x0 (x0 != 65533)) else (quillworkref01_Class.j3 k x0 false)))) else (if x0 ≥ 65 then (if x0 ≤ 90 then (quillworkref01_Class.j3 k x0 true) else (if x0 ≥ 128 then (quillworkref01_Class.j3 k x0 (x0 != 65533)) else (quillworkref01_Class.j3 k x0 false))) else (if x0 ≥ 128 then (quillworkref01_Class.j3 k x0 (x0 != 65533)) else (quillworkref01_Class.j3 k x0 false))))
def quillworkref01_Class.j3 : Nat → Int → Bool → Option (Int)
  | 0, _, _ => none
  | k + 1, x0, x50 => if x50 = true then (some 3) else (if x0 ≥ 48 then (if x0 ≤ 57 then (some 4) else (some 5)) else (some 5))
end
def quillworkref01_Class.f (k : Nat) (a0 : Int) : Option (Int) := if a0 < 0 then (quillworkref01_Class.j0 k a0 true) else (if a0 > 1114111 then (quillworkref01_Class.j0 k a0 true) else (if a0 ≥ 55296 then (quillworkref01_Class.j0 k a0 (decide (a0 ≤ 57343))) else (quillworkref01_Class.j0 k a0 false)))
theorem quillworkref01_Class.mono_l : ∀ k, (∀ y0 y1, LeO (quillworkref01_Class.j0 k y0 y1) (quillworkref01_Class.j0 (k + 1) y0 y1)) ∧ (∀ y0 y1, LeO (quillworkref01_Class.j1 k y0 y1) (quillworkref01_Class.j1 (k + 1) y0 y1)) ∧ (∀ y0 y1, LeO (quillworkref01_Class.j2 k y0 y1) (quillworkref01_Class.j2 (k + 1) y0 y1)) ∧ (∀ y0 y1, LeO (quillworkref01_Class.j3 k y0 y1) (quillworkref01_Class.j3 (k + 1) y0 y1))
  | 0 => ⟨fun _ _ r h => by simp [quillworkref01_Class.j0] at h, fun _ _ r h => by simp [quillworkref01_Class.j1] at h, fun _ _ r h => by simp [quillworkref01_Class.j2] at h, fun _ _ r h => by simp [quillworkref01_Class.j3] at h⟩
  | k + 1 => by
    obtain ⟨ih0, ih1, ih2, ih3⟩ := quillworkref01_Class.mono_l k
    refine ⟨?_, ?_, ?_, ?_⟩
    · intro y0 y1
      unfold quillworkref01_Class.j0
      repeat' first
      | (with_reducible exact ih0 _ _)
      | (with_reducible exact ih1 _ _)
      | (with_reducible exact ih2 _ _)
      | (with_reducible exact ih3 _ _)
      | (with_reducible exact LeO.refl _)
      | (with_reducible exact LeO.none _)
      | (with_reducible refine LeO.ite ?_ ?_)
      | (with_reducible refine LeO.bind ?_ (fun _ => ?_))
      | exact ih0 _ _
      | exact ih1 _ _
      | exact ih2 _ _
      | exact ih3 _ _
      | exact LeO.none _
      | refine LeO.ite ?_ ?_
      | refine LeO.bind ?_ (fun _ => ?_)
    · intro y0 y1
      unfold quillworkref01_Class.j1
      repeat' first
      | (with_reducible exact ih0 _ _)
      | (with_reducible exact ih1 _ _)
      | (with_reducible exact ih2 _ _)
      | (with_reducible exact ih3 _ _)
      | (with_reducible exact LeO.refl _)
      | (with_reducible exact LeO.none _)
      | (with_reducible refine LeO.ite ?_ ?_)
      | (with_reducible refine LeO.bind ?_ (fun _ => ?_))
      | exact ih0 _ _
      | exact ih1 _ _
      | exact ih2 _ _
      | exact ih3 _ _
      | exact LeO.none _
      | refine LeO.ite ?_ ?_
      | refine LeO.bind ?_ (fun _ => ?_)
    · intro y0 y1
      unfold quillworkref01_Class.j2
      repeat' first
      | (with_reducible exact ih0 _ _)
      | (with_reducible exact ih1 _ _)
      | (with_reducible exact ih2 _ _)
      | (with_reducible exact ih3 _ _)
      | (with_reducible exact LeO.refl _)
      | (with_reducible exact LeO.none _)
      | (with_reducible refine LeO.ite ?_ ?_)
      | (with_reducible refine LeO.bind ?_ (fun _ => ?_))
      | exact ih0 _ _
      | exact ih1 _ _
      | exact ih2 _ _
      | exact ih3 _ _
      | exact LeO.none _
      | refine LeO.ite ?_ ?_
      | refine LeO.bind ?_ (fun _ => ?_)
    · intro y0 y1
      unfold quillworkref01_Class.j3
      repeat' first
      | (with_reducible exact ih0 _ _)
      | (with_reducible exact ih1 _ _)
      | (with_reducible exact ih2 _ _)
      | (with_reducible exact ih3 _ _)
      | (with_reducible exact LeO.refl _)
      | (with_reducible exact LeO.none _)
      | (with_reducible refine LeO.ite ?_ ?_)
      | (with_reducible refine LeO.bind ?_ (fun _ => ?_))
      | exact ih0 _ _
      | exact ih1 _ _
      | exact ih2 _ _
      | exact ih3 _ _
      | exact LeO.none _
      | refine LeO.ite ?_ ?_
      | refine LeO.bind ?_ (fun _ => ?_)
theorem quillworkref01_Class.mono : ∀ a0 k, LeO (quillworkref01_Class.f k a0) (quillworkref01_Class.f (k + 1) a0) := by
  intro a0 k
  obtain ⟨ih0, ih1, ih2, ih3⟩ := quillworkref01_Class.mono_l k
  unfold quillworkref01_Class.f
  repeat' first
      | (with_reducible exact ih0 _ _)
      | (with_reducible exact ih1 _ _)
      | (with_reducible exact ih2 _ _)
      | (with_reducible exact ih3 _ _)
      | (with_reducible exact LeO.refl _)
      | (with_reducible exact LeO.none _)
      | (with_reducible refine LeO.ite ?_ ?_)
      | (with_reducible refine LeO.bind ?_ (fun _ => ?_))
      | exact ih0 _ _
      | exact ih1 _ _
      | exact ih2 _ _
      | exact ih3 _ _
      | exact LeO.none _
      | refine LeO.ite ?_ ?_
      | refine LeO.bind ?_ (fun _ => ?_)
set_option maxHeartbeats 8000000 in
set_option maxRecDepth 100000 in
theorem quillworkref01_Class.calls (k : Nat) (a0 : Int) (r : Int) (w : World) (h : quillworkref01_Class.f k a0 = some r) :
    Calls Tryd.prog 136 #[.int .i32 a0] w fun e w' => e = .returned (.int .i64 r) ∧ Drawn0 w w' := by
  have H : (if a0 < 0 then (quillworkref01_Class.j0 k a0 true) else (if a0 > 1114111 then (quillworkref01_Class.j0 k a0 true) else (if a0 ≥ 55296 then (quillworkref01_Class.j0 k a0 (decide (a0 ≤ 57343))) else (quillworkref01_Class.j0 k a0 false)))) = some r := h
  clear h
  have HC2 := Aside0.mk H
  clear H
  go_enter Tryd.func136, Tryd.ntmps136
  go_upto_region 1 with (fail)
  go_cut [16] (fun v16 wc => ∃ (kq : Nat) (x16_1 : Bool), v16 = .bool x16_1 ∧ Aside0 (quillworkref01_Class.j0 kq a0 x16_1 = some r) ∧ Aside0 (kq ≤ k) ∧ Drawn0 w wc)
  case first =>
    have H := HC2.out
    clear HC2
    by_cases c3 : a0 < 0
    · rw [if_pos c3] at H
      have c3b0 : decide (a0 < 0) = true := decide_eq_true c3
      clear c3
      (first | rw [c3b0] | (simp only [i64_w, i32_w]; rw [c3b0]) | skip)
      have H' := Aside0.mk H
      clear H
      go_wp2
      go_meet
      case rel => exact ⟨_, (true), (by first | rfl | (simp; done) | (simp [*]; done)), H', ⟨by first | omega | exact Nat.le_refl _⟩, by repeat (first | exact Drawn0.refl _ | apply Drawn0.step)⟩
    · rw [if_neg c3] at H
      have c3b0 : decide (a0 < 0) = false := decide_eq_false c3
      clear c3
      (first | rw [c3b0] | (simp only [i64_w, i32_w]; rw [c3b0]) | skip)
      by_cases c4 : a0 > 1114111
      · rw [if_pos c4] at H
        have c4b0 : decide (1114111 < a0) = true := decide_eq_true c4
        clear c4
        have H' := Aside0.mk H
        clear H
        go_wp2
        go_meet
        case rel => exact ⟨_, (true), (by first | rfl | (simp; done) | (simp [*]; done)), H', ⟨by first | omega | exact Nat.le_refl _⟩, by repeat (first | exact Drawn0.refl _ | apply Drawn0.step)⟩
      · rw [if_neg c4] at H
        have c4b0 : decide (1114111 < a0) = false := decide_eq_false c4
        clear c4
        by_cases c5 : a0 ≥ 55296
        · rw [if_pos c5] at H
          have c5b0 : decide (55296 ≤ a0) = true := decide_eq_true c5
          clear c5
          have H' := Aside0.mk H
          clear H
          go_wp2
          go_meet
          case rel => exact ⟨_, (decide (a0 ≤ 57343)), (by first | rfl | (simp; done) | (simp [*]; done)), H', ⟨by first | omega | exact Nat.le_refl _⟩, by repeat (first | exact Drawn0.refl _ | apply Drawn0.step)⟩
        · rw [if_neg c5] at H
          have c5b0 : decide (55296 ≤ a0) = false := decide_eq_false c5
          clear c5
          have H' := Aside0.mk H
          clear H
          go_wp2
          go_meet
          case rel => exact ⟨_, (false), (by first | rfl | (simp; done) | (simp [*]; done)), H', ⟨by first | omega | exact Nat.le_refl _⟩, by repeat (first | exact Drawn0.refl _ | apply Drawn0.step)⟩
  case rest =>
    clear HC2
    try clear c1
    try clear p2
    try clear c3
    try clear c3b0
    try clear c4
    try clear c4b0
    try clear c5
    try clear c5b0
    obtain ⟨kq, x16_1, rfl, HA, HJ1, ⟨mc1, rfl⟩⟩ := hcut
    cases kq with
    | zero => exact absurd HA.out (by simp [quillworkref01_Class.j0])
    | succ kj1 =>
      have H := HA.out
      clear HA
      simp only [quillworkref01_Class.j0] at H
      by_cases c6 : x16_1 = true
      · subst c6
        have H1 : (some 0) = some r := by rw [if_pos rfl] at H; exact H
        clear H
        have H := H1
        clear H1
        obtain rfl := Option.some.inj H
        go_wp2
        go_ret
        exact ⟨by first | rfl | (simp; done) | (simp [*]; done), by repeat (first | exact Drawn0.refl _ | apply Drawn0.step)⟩
      · replace c6 := Bool.eq_false_iff.mpr c6
        subst c6
        have H1 : (if a0 < 32 then (quillworkref01_Class.j1 kj1 a0 true) else (quillworkref01_Class.j1 kj1 a0 (a0 == 127))) = some r := by rw [if_neg (show ¬ (false = true) by decide)] at H; exact H
        clear H
        have H := H1
        clear H1
        have HC7 := Aside0.mk H
        clear H
        go_upto_region 3 with (fail)
        go_cut [22] (fun v22 wc => ∃ (kq : Nat) (x22_6 : Bool), v22 = .bool x22_6 ∧ Aside0 (quillworkref01_Class.j1 kq a0 x22_6 = some r) ∧ Aside0 (kq ≤ kj1) ∧ Drawn0 w wc)
        case first =>
          have H := HC7.out
          clear HC7
          by_cases c8 : a0 < 32
          · rw [if_pos c8] at H
            have c8b0 : decide (a0 < 32) = true := decide_eq_true c8
            clear c8
            (first | rw [c8b0] | (simp only [i64_w, i32_w]; rw [c8b0]) | skip)
            have H' := Aside0.mk H
            clear H
            go_wp2
            go_meet
            case rel => exact ⟨_, (true), (by first | rfl | (simp; done) | (simp [*]; done)), H', ⟨by have := HJ1.out; first | omega | exact Nat.le_refl _⟩, by repeat (first | exact Drawn0.refl _ | apply Drawn0.step)⟩
          · rw [if_neg c8] at H
            have c8b0 : decide (a0 < 32) = false := decide_eq_false c8
            clear c8
            (first | rw [c8b0] | (simp only [i64_w, i32_w]; rw [c8b0]) | skip)
            have H' := Aside0.mk H
            clear H
            go_wp2
            go_meet
            case rel => exact ⟨_, ((a0 == 127)), (by first | rfl | (simp; done) | (simp [*]; done)), H', ⟨by have := HJ1.out; first | omega | exact Nat.le_refl _⟩, by repeat (first | exact Drawn0.refl _ | apply Drawn0.step)⟩
        case rest =>
          clear HC7
          try clear c1
          try clear p2
          try clear c3
          try clear c3b0
          try clear c4
          try clear c4b0
          try clear c5
          try clear c5b0
          try clear c6
          try clear c8
          try clear c8b0
          try clear p2
          obtain ⟨kq, x22_6, rfl, HA, HJ6, ⟨mc6, rfl⟩⟩ := hcut
          cases kq with
          | zero => exact absurd HA.out (by simp [quillworkref01_Class.j1])
          | succ kj6 =>
            have H := HA.out
            clear HA
            simp only [quillworkref01_Class.j1] at H
            by_cases c9 : x22_6 = true
            · subst c9
              have H1 : (some 1) = some r := by rw [if_pos rfl] at H; exact H
              clear H
              have H := H1
              clear H1
              obtain rfl := Option.some.inj H
              go_wp2
              go_ret
              exact ⟨by first | rfl | (simp; done) | (simp [*]; done), by repeat (first | exact Drawn0.refl _ | apply Drawn0.step)⟩
            · replace c9 := Bool.eq_false_iff.mpr c9
              subst c9
              have H1 : (if a0 = 32 then (quillworkref01_Class.j2 kj6 a0 true) else (quillworkref01_Class.j2 kj6 a0 (a0 == 160))) = some r := by rw [if_neg (show ¬ (false = true) by decide)] at H; exact H
              clear H
              have H := H1
              clear H1
              have HC10 := Aside0.mk H
              clear H
              go_upto_region 5 with (fail)
              go_cut [28] (fun v28 wc => ∃ (kq : Nat) (x28_9 : Bool), v28 = .bool x28_9 ∧ Aside0 (quillworkref01_Class.j2 kq a0 x28_9 = some r) ∧ Aside0 (kq ≤ kj6) ∧ Drawn0 w wc)
              case first =>
                have H := HC10.out
                clear HC10
                by_cases c11 : a0 = 32
                · rw [if_pos c11] at H
                  have c11b0 : (a0 == 32) = true := beq_iff_eq.mpr c11
                  have c11b1 : (a0 != 32) = false := bne_eq_false_iff_eq.mpr c11
                  clear c11
                  (first | rw [c11b0] | (simp only [i64_w, i32_w]; rw [c11b0]) | skip)
                  have H' := Aside0.mk H
                  clear H
                  go_wp2
                  go_meet
                  case rel => exact ⟨_, (true), (by first | rfl | (simp; done) | (simp [*]; done)), H', ⟨by have := HJ1.out; have := HJ6.out; first | omega | exact Nat.le_refl _⟩, by repeat (first | exact Drawn0.refl _ | apply Drawn0.step)⟩
                · rw [if_neg c11] at H
                  have c11b0 : (a0 == 32) = false := beq_eq_false_iff_ne.mpr c11
                  have c11b1 : (a0 != 32) = true := bne_iff_ne.mpr c11
                  (first | rw [c11b0] | (simp only [i64_w, i32_w]; rw [c11b0]) | skip)
                  have H' := Aside0.mk H
                  clear H
                  go_wp2
                  go_meet
                  case rel => exact ⟨_, ((a0 == 160)), (by first | rfl | (simp; done) | (simp [*]; done)), H', ⟨by have := HJ1.out; have := HJ6.out; first | omega | exact Nat.le_refl _⟩, by repeat (first | exact Drawn0.refl _ | apply Drawn0.step)⟩
              case rest =>
                clear HC10
                try clear c1
                try clear p2
                try clear c3
                try clear c3b0
                try clear c4
                try clear c4b0
                try clear c5
                try clear c5b0
                try clear c6
                try clear c8
                try clear c8b0
                try clear c9
                try clear c11
                try clear c11b0
                try clear c11b1
                try clear p2
                obtain ⟨kq, x28_9, rfl, HA, HJ9, ⟨mc9, rfl⟩⟩ := hcut
                cases kq with
                | zero => exact absurd HA.out (by simp [quillworkref01_Class.j2])
                | succ kj9 =>
                  have H := HA.out
                  clear HA
                  simp only [quillworkref01_Class.j2] at H
                  by_cases c12 : x28_9 = true
                  · subst c12
                    have H1 : (some 2) = some r := by rw [if_pos rfl] at H; exact H
                    clear H
                    have H := H1
                    clear H1
                    obtain rfl := Option.some.inj H
                    go_wp2
                    go_ret
                    exact ⟨by first | rfl | (simp; done) | (simp [*]; done), by repeat (first | exact Drawn0.refl _ | apply Drawn0.step)⟩
                  · replace c12 := Bool.eq_false_iff.mpr c12
                    subst c12
                    have H1 : (if a0 ≥ 97 then (if a0 ≤ 122 then (quillworkref01_Class.j3 kj9 a0 true) else (if a0 ≥ 65 then (if a0 ≤ 90 then (quillworkref01_Class.j3 kj9 a0 true) else (if a0 ≥ 128 then (quillworkref01_Class.j3 kj9 a0 (a0 != 65533)) else (quillworkref01_Class.j3 kj9 a0 false))) else (if a0 ≥ 128 then (quillworkref01_Class.j3 kj9 a0 (a0 != 65533)) else (quillworkref01_Class.j3 kj9 a0 false)))) else (if a0 ≥ 65 then (if a0 ≤ 90 then (quillworkref01_Class.j3 kj9 a0 true) else (if a0 ≥ 128 then (quillworkref01_Class.j3 kj9 a0 (a0 != 65533)) else (quillworkref01_Class.j3 kj9 a0 false))) else (if a0 ≥ 128 then (quillworkref01_Class.j3 kj9 a0 (a0 != 65533)) else (quillworkref01_Class.j3 kj9 a0 false)))) = some r := by rw [if_neg (show ¬ (false = true) by decide)] at H; exact H
                    clear H
                    have H := H1
                    clear H1
                    have HC13 := Aside0.mk H
                    clear H
                    go_upto_region 7 with (fail)
                    go_cut [50] (fun v50 wc => ∃ (kq : Nat) (x50_12 : Bool), v50 = .bool x50_12 ∧ Aside0 (quillworkref01_Class.j3 kq a0 x50_12 = some r) ∧ Aside0 (kq ≤ kj9) ∧ Drawn0 w wc)
                    case first =>
                      have H := HC13.out
                      clear HC13
                      by_cases c14 : a0 ≥ 97
                      · rw [if_pos c14] at H
                        have c14b0 : decide (97 ≤ a0) = true := decide_eq_true c14
                        clear c14
                        (first | rw [c14b0] | (simp only [i64_w, i32_w]; rw [c14b0]) | skip)
                        by_cases c15 : a0 ≤ 122
                        · rw [if_pos c15] at H
                          have c15b0 : decide (a0 ≤ 122) = true := decide_eq_true c15
                          clear c15
                          have H' := Aside0.mk H
                          clear H
                          go_wp2
                          go_meet
                          case rel => exact ⟨_, (true), (by first | rfl | (simp; done) | (simp [*]; done)), H', ⟨by have := HJ1.out; have := HJ6.out; have := HJ9.out; first | omega | exact Nat.le_refl _⟩, by repeat (first | exact Drawn0.refl _ | apply Drawn0.step)⟩
                        · rw [if_neg c15] at H
                          have c15b0 : decide (a0 ≤ 122) = false := decide_eq_false c15
                          clear c15
                          by_cases c16 : a0 ≥ 65
                          · rw [if_pos c16] at H
                            have c16b0 : decide (65 ≤ a0) = true := decide_eq_true c16
                            clear c16
                            by_cases c17 : a0 ≤ 90
                            · rw [if_pos c17] at H
                              have c17b0 : decide (a0 ≤ 90) = true := decide_eq_true c17
                              clear c17
                              have H' := Aside0.mk H
                              clear H
                              go_wp2
                              go_meet
                              case rel => exact ⟨_, (true), (by first | rfl | (simp; done) | (simp [*]; done)), H', ⟨by have := HJ1.out; have := HJ6.out; have := HJ9.out; first | omega | exact Nat.le_refl _⟩, by repeat (first | exact Drawn0.refl _ | apply Drawn0.step)⟩
                            · rw [if_neg c17] at H
                              have c17b0 : decide (a0 ≤ 90) = false := decide_eq_false c17
                              clear c17
                              by_cases c18 : a0 ≥ 128
                              · rw [if_pos c18] at H
                                have c18b0 : decide (128 ≤ a0) = true := decide_eq_true c18
                                clear c18
                                have H' := Aside0.mk H
                                clear H
                                go_wp2
                                go_meet
                                case rel => exact ⟨_, ((a0 != 65533)), (by first | rfl | (simp; done) | (simp [*]; done)), H', ⟨by have := HJ1.out; have := HJ6.out; have := HJ9.out; first | omega | exact Nat.le_refl _⟩, by repeat (first | exact Drawn0.refl _ | apply Drawn0.step)⟩
                              · rw [if_neg c18] at H
                                have c18b0 : decide (128 ≤ a0) = false := decide_eq_false c18
                                clear c18
                                have H' := Aside0.mk H
                                clear H
                                go_wp2
                                go_meet
                                case rel => exact ⟨_, (false), (by first | rfl | (simp; done) | (simp [*]; done)), H', ⟨by have := HJ1.out; have := HJ6.out; have := HJ9.out; first | omega | exact Nat.le_refl _⟩, by repeat (first | exact Drawn0.refl _ | apply Drawn0.step)⟩
                          · rw [if_neg c16] at H
                            have c16b0 : decide (65 ≤ a0) = false := decide_eq_false c16
                            clear c16
                            by_cases c19 : a0 ≥ 128
                            · rw [if_pos c19] at H
                              have c19b0 : decide (128 ≤ a0) = true := decide_eq_true c19
                              clear c19
                              have H' := Aside0.mk H
                              clear H
                              go_wp2
                              go_meet
                              case rel => exact ⟨_, ((a0 != 65533)), (by first | rfl | (simp; done) | (simp [*]; done)), H', ⟨by have := HJ1.out; have := HJ6.out; have := HJ9.out; first | omega | exact Nat.le_refl _⟩, by repeat (first | exact Drawn0.refl _ | apply Drawn0.step)⟩
                            · rw [if_neg c19] at H
                              have c19b0 : decide (128 ≤ a0) = false := decide_eq_false c19
                              clear c19
                              have H' := Aside0.mk H
                              clear H
                              go_wp2
                              go_meet
                              case rel => exact ⟨_, (false), (by first | rfl | (simp; done) | (simp [*]; done)), H', ⟨by have := HJ1.out; have := HJ6.out; have := HJ9.out; first | omega | exact Nat.le_refl _⟩, by repeat (first | exact Drawn0.refl _ | apply Drawn0.step)⟩
                      · rw [if_neg c14] at H
                        have c14b0 : decide (97 ≤ a0) = false := decide_eq_false c14
                        clear c14
                        (first | rw [c14b0] | (simp only [i64_w, i32_w]; rw [c14b0]) | skip)
                        by_cases c20 : a0 ≥ 65
                        · rw [if_pos c20] at H
                          have c20b0 : decide (65 ≤ a0) = true := decide_eq_true c20
                          clear c20
                          by_cases c21 : a0 ≤ 90
                          · rw [if_pos c21] at H
                            have c21b0 : decide (a0 ≤ 90) = true := decide_eq_true c21
                            clear c21
                            have H' := Aside0.mk H
                            clear H
                            go_wp2
                            go_meet
                            case rel => exact ⟨_, (true), (by first | rfl | (simp; done) | (simp [*]; done)), H', ⟨by have := HJ1.out; have := HJ6.out; have := HJ9.out; first | omega | exact Nat.le_refl _⟩, by repeat (first | exact Drawn0.refl _ | apply Drawn0.step)⟩
                          · rw [if_neg c21] at H
                            have c21b0 : decide (a0 ≤ 90) = false := decide_eq_false c21
                            clear c21
                            by_cases c22 : a0 ≥ 128
                            · rw [if_pos c22] at H
                              have c22b0 : decide (128 ≤ a0) = true := decide_eq_true c22
                              clear c22
                              have H' := Aside0.mk H
                              clear H
                              go_wp2
                              go_meet
                              case rel => exact ⟨_, ((a0 != 65533)), (by first | rfl | (simp; done) | (simp [*]; done)), H', ⟨by have := HJ1.out; have := HJ6.out; have := HJ9.out; first | omega | exact Nat.le_refl _⟩, by repeat (first | exact Drawn0.refl _ | apply Drawn0.step)⟩
                            · rw [if_neg c22] at H
                              have c22b0 : decide (128 ≤ a0) = false := decide_eq_false c22
                              clear c22
                              have H' := Aside0.mk H
                              clear H
                              go_wp2
                              go_meet
                              case rel => exact ⟨_, (false), (by first | rfl | (simp; done) | (simp [*]; done)), H', ⟨by have := HJ1.out; have := HJ6.out; have := HJ9.out; first | omega | exact Nat.le_refl _⟩, by repeat (first | exact Drawn0.refl _ | apply Drawn0.step)⟩
                        · rw [if_neg c20] at H
                          have c20b0 : decide (65 ≤ a0) = false := decide_eq_false c20
                          clear c20
                          by_cases c23 : a0 ≥ 128
                          · rw [if_pos c23] at H
                            have c23b0 : decide (128 ≤ a0) = true := decide_eq_true c23
                            clear c23
                            have H' := Aside0.mk H
                            clear H
                            go_wp2
                            go_meet
                            case rel => exact ⟨_, ((a0 != 65533)), (by first | rfl | (simp; done) | (simp [*]; done)), H', ⟨by have := HJ1.out; have := HJ6.out; have := HJ9.out; first | omega | exact Nat.le_refl _⟩, by repeat (first | exact Drawn0.refl _ | apply Drawn0.step)⟩
                          · rw [if_neg c23] at H
                            have c23b0 : decide (128 ≤ a0) = false := decide_eq_false c23
                            clear c23
                            have H' := Aside0.mk H
                            clear H
                            go_wp2
                            go_meet
                            case rel => exact ⟨_, (false), (by first | rfl | (simp; done) | (simp [*]; done)), H', ⟨by have := HJ1.out; have := HJ6.out; have := HJ9.out; first | omega | exact Nat.le_refl _⟩, by repeat (first | exact Drawn0.refl _ | apply Drawn0.step)⟩
                    case rest =>
                      clear HC13
                      try clear c1
                      try clear c2
                      try clear p2
                      try clear c3
                      try clear c3b0
                      try clear c4
                      try clear c4b0
                      try clear c5
                      try clear c5b0
                      try clear c6
                      try clear c8
                      try clear c8b0
                      try clear c9
                      try clear c11
                      try clear c11b0
                      try clear c11b1
                      try clear c12
                      try clear c13
                      try clear c14
                      try clear c14b0
                      try clear c15
                      try clear c15b0
                      try clear c16
                      try clear c16b0
                      try clear c17
                      try clear c17b0
                      try clear c18
                      try clear c18b0
                      try clear c19
                      try clear c19b0
                      try clear c20
                      try clear c20b0
                      try clear c21
                      try clear c21b0
                      try clear c22
                      try clear c22b0
                      try clear c23
                      try clear c23b0
                      try clear p2
                      obtain ⟨kq, x50_12, rfl, HA, HJ12, ⟨mc12, rfl⟩⟩ := hcut
                      cases kq with
                      | zero => exact absurd HA.out (by simp [quillworkref01_Class.j3])
                      | succ kj12 =>
                        have H := HA.out
                        clear HA
                        simp only [quillworkref01_Class.j3] at H
                        by_cases c24 : x50_12 = true
                        · subst c24
                          have H1 : (some 3) = some r := by rw [if_pos rfl] at H; exact H
                          clear H
                          have H := H1
                          clear H1
                          obtain rfl := Option.some.inj H
                          go_wp2
                          go_ret
                          exact ⟨by first | rfl | (simp; done) | (simp [*]; done), by repeat (first | exact Drawn0.refl _ | apply Drawn0.step)⟩
                        · replace c24 := Bool.eq_false_iff.mpr c24
                          subst c24
                          have H1 : (if a0 ≥ 48 then (if a0 ≤ 57 then (some 4) else (some 5)) else (some 5)) = some r := by rw [if_neg (show ¬ (false = true) by decide)] at H; exact H
                          clear H
                          have H := H1
                          clear H1
                          by_cases c25 : a0 ≥ 48
                          · rw [if_pos c25] at H
                            have c25b0 : decide (48 ≤ a0) = true := decide_eq_true c25
                            clear c25
                            by_cases c26 : a0 ≤ 57
                            · rw [if_pos c26] at H
                              have c26b0 : decide (a0 ≤ 57) = true := decide_eq_true c26
                              clear c26
                              obtain rfl := Option.some.inj H
                              go_wp2
                              go_ret
                              exact ⟨by first | rfl | (simp; done) | (simp [*]; done), by repeat (first | exact Drawn0.refl _ | apply Drawn0.step)⟩
                            · rw [if_neg c26] at H
                              have c26b0 : decide (a0 ≤ 57) = false := decide_eq_false c26
                              clear c26
                              obtain rfl := Option.some.inj H
                              go_wp2
                              go_ret
                              exact ⟨by first | rfl | (simp; done) | (simp [*]; done), by repeat (first | exact Drawn0.refl _ | apply Drawn0.step)⟩
                          · rw [if_neg c25] at H
                            have c25b0 : decide (48 ≤ a0) = false := decide_eq_false c25
                            clear c25
                            obtain rfl := Option.some.inj H
                            go_wp2
                            go_ret
                            exact ⟨by first | rfl | (simp; done) | (simp [*]; done), by repeat (first | exact Drawn0.refl _ | apply Drawn0.step)⟩

end Go.Proofs.YtgdpknmffohhaaaDoor.Pl

namespace Go.Proofs.YtgdpknmffohhaaaDoor.Pl
open Go.RowKit Go.Proofs.YtgdpknmffohhaaaDoorW.PrintWords Go.Proofs.YtgdpknmffohhaaaDoorW.PrintLast Go.Proofs.YtgdpknmffohhaaaDoorW.PrintMore
attribute [local go_sem] max2_int min2_int max_two min_two max_three min_three max_four min_four   -- for this text's walks alone
set_option linter.unusedVariables false
set_option linter.unusedSimpArgs false

/-! ### quillworkref01_May: function 124 -/
def quillworkref01_May.f (k : Nat) (a0 : Int) : Option (Bool) := (quillworkref01_Class.f k a0).bind fun t206 => (some (decide (t206 ≥ 2)))
theorem quillworkref01_May.mono : ∀ a0 k, LeO (quillworkref01_May.f k a0) (quillworkref01_May.f (k + 1) a0) := by
  intro a0 k
  unfold quillworkref01_May.f
  repeat' first
      | (with_reducible exact quillworkref01_Class.mono _ _)
      | (with_reducible exact LeO.refl _)
      | (with_reducible exact LeO.none _)
      | (with_reducible refine LeO.ite ?_ ?_)
      | (with_reducible refine LeO.bind ?_ (fun _ => ?_))
      | exact quillworkref01_Class.mono _ _
      | exact LeO.none _
      | refine LeO.ite ?_ ?_
      | refine LeO.bind ?_ (fun _ => ?_)
set_option maxHeartbeats 8000000 in
set_option maxRecDepth 100000 in
theorem quillworkref01_May.calls (k : Nat) (a0 : Int) (r : Bool) (w : World) (h : quillworkref01_May.f k a0 = some r) :
    Calls Tryd.prog 124 #[.int .i32 a0] w fun e w' => e = .returned (.bool r) ∧ Drawn0 w w' := by
  have H : ((quillworkref01_Class.f k a0).bind fun t206 => (some (decide (t206 ≥ 2)))) = some r := h
  clear h
  replace H := Option.bind_eq_some_iff.mp H
  obtain ⟨t206, A20, H⟩ := H
  replace H : (some (decide (t206 ≥ 2))) = some r := H
  have A2 := Aside0.mk A20
  clear A20
  obtain rfl := Option.some.inj H
  go_enter Tryd.func124, Tryd.ntmps124
  go_wp2_with (first | ((with_reducible refine gate_callee (f := 136) rfl ?_); refine goesL_ (some 4) rfl rfl Tryd.func136 (by kernel_rfl) rfl #[.int .i32 a0] rfl (by (try simp only [List.map_toArray, List.map_cons, List.map_nil]); first | done | rfl | (simp only [List.length_drop, List.length_take]; rfl)) ?_; (with_reducible refine (quillworkref01_Class.calls k a0 t206 _ A2.out).mono ?_); rintro e w' ⟨rfl, ⟨nd, rfl⟩⟩; refine ⟨_, rfl, ?_⟩))
  go_ret
  exact ⟨by first | rfl | (simp; done) | (simp [*]; done), by repeat (first | exact Drawn0.refl _ | apply Drawn0.step)⟩

end Go.Proofs.YtgdpknmffohhaaaDoor.Pl

namespace Go.Proofs.YtgdpknmffohhaaaDoor.Pl
open Go.RowKit Go.Proofs.YtgdpknmffohhaaaDoorW.PrintWords Go.Proofs.YtgdpknmffohhaaaDoorW.PrintLast Go.Proofs.YtgdpknmffohhaaaDoorW.PrintMore
attribute [local go_sem] max2_int min2_int max_two min_two max_three min_three max_four min_four   -- for this text's walks alone
set_option linter.unusedVariables false
set_option linter.unusedSimpArgs false

/-! ### quillworkref03_Value: function 145 (given) -/
def runesL_ (s : ByteArray) : Nat → Nat → List Int
  | 0, _ => []
  | k + 1, pos => if pos < s.size then ((Utf8.decode s pos).1 : Int) :: runesL_ s k (pos + (Utf8.decode s pos).2) else []
theorem runesFrom_eq_ (s : ByteArray) : ∀ (k pos : Nat) (acc : Array Value), Conv.runesFrom s k pos acc = acc ++ ((runesL_ s k pos).map fun x => Value.int .i32 x).toArray
  | 0, _, acc => by simp [Conv.runesFrom, runesL_]
  | k + 1, pos, acc => by
    unfold Conv.runesFrom runesL_
    by_cases h : pos < s.size
    · rw [if_pos h, if_pos h]
      dsimp only
      rw [runesFrom_eq_ s k]
      simp
    · rw [if_neg h, if_neg h]
      simp
theorem valid_yes_ (r : Nat) (hv : r < 55296 ∨ (57343 < r ∧ r ≤ 1114111)) : Utf8.valid (r : Int) = true := by
  unfold Utf8.valid
  simp only [Bool.or_eq_true, Bool.and_eq_true, decide_eq_true_eq]
  omega
theorem valid_no_ (r : Nat) (hv : ¬ (r < 55296 ∨ (57343 < r ∧ r ≤ 1114111))) : Utf8.valid (r : Int) = false := by
  cases h : Utf8.valid (r : Int) with
  | false => rfl
  | true =>
    unfold Utf8.valid at h
    simp only [Bool.or_eq_true, Bool.and_eq_true, decide_eq_true_eq] at h
    omega
def encN_ (c : Nat) : ByteArray := if c < 128 then ⟨#[UInt8.ofNat c]⟩ else if c < 2048 then ⟨#[UInt8.ofNat (192 + c / 64), UInt8.ofNat (128 + c % 64)]⟩ else if c < 65536 then ⟨#[UInt8.ofNat (224 + c / 4096), UInt8.ofNat (128 + c / 64 % 64), UInt8.ofNat (128 + c % 64)]⟩ else ⟨#[UInt8.ofNat (240 + c / 262144), UInt8.ofNat (128 + c / 4096 % 64), UInt8.ofNat (128 + c / 64 % 64), UInt8.ofNat (128 + c % 64)]⟩
theorem enc_eq_ (r : Int) : Utf8.encode r = encN_ (if Utf8.valid r = true then r.toNat else Utf8.runeError) := rfl
theorem encN_bad_ : (encN_ 65533).data.toList = [239, 191, 189] := by
  unfold encN_
  simp only [Nat.reduceLT, ↓reduceIte, Nat.reduceDiv, Nat.reduceMod, Nat.reduceAdd]
  rfl
theorem enc_rune_ (r : Nat) : (Utf8.encode (r : Int)).data.toList = Lib.encodeRune (r : Int) := by
  unfold Lib.encodeRune
  rw [enc_eq_]
  by_cases hv : r < 55296 ∨ (57343 < r ∧ r ≤ 1114111)
  · rw [if_pos (valid_yes_ r hv), Int.toNat_natCast]
    unfold encN_
    by_cases h1 : r < 128
    · rw [if_pos h1, Lib.encodeRuneZ_one (by omega) (by omega)]
      rfl
    · rw [if_neg h1]
      by_cases h2 : r < 2048
      · rw [if_pos h2, Lib.encodeRuneZ_two (by omega) (by omega)]
        simp only [List.map_cons, List.map_nil, show (192 + (r : Int) / 64).toNat = 192 + r / 64 by omega, show (128 + (r : Int) % 64).toNat = 128 + r % 64 by omega]
      · rw [if_neg h2]
        by_cases h3 : r < 65536
        · rw [if_pos h3, Lib.encodeRuneZ_three (by omega)]
          simp only [List.map_cons, List.map_nil, show (224 + (r : Int) / 4096).toNat = 224 + r / 4096 by omega, show (128 + (r : Int) / 64 % 64).toNat = 128 + r / 64 % 64 by omega, show (128 + (r : Int) % 64).toNat = 128 + r % 64 by omega]
        · rw [if_neg h3, Lib.encodeRuneZ_four (by omega) (by omega)]
          simp only [List.map_cons, List.map_nil, show (240 + (r : Int) / 262144).toNat = 240 + r / 262144 by omega, show (128 + (r : Int) / 4096 % 64).toNat = 128 + r / 4096 % 64 by omega, show (128 + (r : Int) / 64 % 64).toNat = 128 + r / 64 % 64 by omega, show (128 + (r : Int) % 64).toNat = 128 + r % 64 by omega]
  · rw [Lib.encodeRuneZ_bad (by omega), if_neg (by rw [valid_no_ r hv]; decide), show Utf8.runeError = 65533 from rfl, encN_bad_]
    rfl
theorem runesBytes_list_ (ns : List Nat) : (runesBytes (ns.map fun (x : Nat) => (x : Int))).data.toList = ns.flatMap fun (x : Nat) => Lib.encodeRune (x : Int) := by
  unfold runesBytes
  have hk : ∀ (l : List Nat) (b : ByteArray), ((l.map fun (x : Nat) => (x : Int)).foldl (fun r n => r ++ Utf8.encode n) b).data.toList = b.data.toList ++ l.flatMap fun (x : Nat) => Lib.encodeRune (x : Int) := by
    intro l
    induction l with
    | nil => intro b; simp
    | cons x l ih =>
      intro b
      rw [List.map_cons, List.foldl_cons, ih]
      simp [enc_rune_, ByteArray.data_append]
  rw [hk]
  rfl
def runesN_ (s : ByteArray) : Nat → Nat → List Nat
  | 0, _ => []
  | k + 1, pos => if pos < s.size then (Utf8.decode s pos).1 :: runesN_ s k (pos + (Utf8.decode s pos).2) else []
theorem runesL_N_ (s : ByteArray) : ∀ k pos, runesL_ s k pos = (runesN_ s k pos).map fun (x : Nat) => (x : Int)
  | 0, _ => rfl
  | k + 1, pos => by
    unfold runesL_ runesN_
    split
    · rw [List.map_cons, runesL_N_ s k]
    · rfl
theorem bad_head_ {l : List UInt8} (h : ∃ t, l = 239 :: 191 :: 189 :: t) : ¬ ((Lib.decodeL l).1 = 65533 ∧ (Lib.decodeL l).2 = 1) := by
  obtain ⟨t, rfl⟩ := h
  rw [Lib.decodeL_N]
  have hh : Lib.decodeN (t.length + 3) 239 191 189 ((239 :: 191 :: 189 :: t : List UInt8).getD 3 0).toNat = (65533, 3) := by
    unfold Lib.decodeN
    simp
  intro e
  rw [show (239 :: 191 :: 189 :: t : List UInt8).length = t.length + 3 from rfl] at e
  rw [show ((239 :: 191 :: 189 :: t : List UInt8).getD 0 0).toNat = 239 from rfl, show ((239 :: 191 :: 189 :: t : List UInt8).getD 1 0).toNat = 191 from rfl, show ((239 :: 191 :: 189 :: t : List UInt8).getD 2 0).toNat = 189 from rfl, hh] at e
  exact absurd e.2 (by decide)
/-- what the runes from pos on encode to is what stood there, just where that is valid -/
theorem back_iff_ (s : ByteArray) : ∀ (k pos : Nat), s.size < pos + k → pos ≤ s.size → (((runesN_ s k pos).flatMap fun (x : Nat) => Lib.encodeRune (x : Int)) = s.data.toList.drop pos ↔ Lib.validD (s.data.toList.drop pos) = true)
  | 0, pos, h, h2 => absurd h (by omega)
  | k + 1, pos, h, h2 => by
    have hlen : s.data.toList.length = s.size := (Lib.size_eq s).symm
    unfold runesN_
    by_cases hp : pos < s.size
    · rw [if_pos hp]
      have hne : s.data.toList.drop pos ≠ [] := by
        intro h0
        have := congrArg List.length h0
        rw [List.length_drop, hlen] at this
        simp at this
        omega
      have hle := Lib.decodeL_le _ hne
      have hw := Lib.decodeL_width (s.data.toList.drop pos)
      rw [List.length_drop, hlen] at hle
      have hst := Lib.validD_step _ hne
      have hen := Lib.encode_decode (s.data.toList.drop pos) hne
      have hbh := @bad_head_ (s.data.toList.drop pos)
      rw [Lib.decodeL_drop] at hle hw hst hen hbh
      rw [hst, List.flatMap_cons]
      by_cases hb : (Utf8.decode s pos).1 = 65533 ∧ (Utf8.decode s pos).2 = 1
      · rw [if_pos hb]
        constructor
        · intro e
          refine absurd hb (hbh ?_)
          rw [hb.1, show Lib.encodeRune ((65533 : Nat) : Int) = [239, 191, 189] by decide] at e
          exact ⟨_, e.symm⟩
        · intro e
          cases e
      · rw [if_neg hb, hen hb]
        have ih := back_iff_ s k (pos + (Utf8.decode s pos).2) (by omega) (by omega)
        rw [List.drop_drop] at ⊢
        rw [← ih]
        constructor
        · intro e
          have e2 : (s.data.toList.drop pos).take (Utf8.decode s pos).2 ++ (s.data.toList.drop pos).drop (Utf8.decode s pos).2 = s.data.toList.drop pos := List.take_append_drop _ _
          have e3 := List.append_cancel_left (e.trans e2.symm)
          rw [List.drop_drop] at e3
          exact e3
        · intro e
          rw [e, ← List.drop_drop]
          exact List.take_append_drop _ _
    · rw [if_neg hp]
      have : s.data.toList.drop pos = [] := List.drop_eq_nil_of_le (by omega)
      rw [this]
      exact ⟨fun _ => rfl, fun _ => rfl⟩
theorem runesMay_all_ (s : ByteArray) : ∀ k pos, runesMay_ s k pos = (runesL_ s k pos).all mayR_
  | 0, _ => rfl
  | k + 1, pos => by
    unfold runesMay_ runesL_
    split
    · rw [List.all_cons, runesMay_all_ s k]
      cases mayR_ ((Utf8.decode s pos).1 : Int) <;> rfl
    · rfl
theorem runesL_more_ (s : ByteArray) : ∀ k pos, s.size ≤ pos + k → runesL_ s (k + 1) pos = runesL_ s k pos
  | 0, pos, h => by
    unfold runesL_
    rw [if_neg (by omega)]
  | k + 1, pos, h => by
    rw [runesL_]
    conv => rhs; rw [runesL_]
    by_cases hp : pos < s.size
    · rw [if_pos hp, if_pos hp, runesL_more_ s k (pos + (Utf8.decode s pos).2) (by have := Lib.width_pos s pos; omega)]
    · rw [if_neg hp, if_neg hp]
theorem class3R_ (k : Nat) (c : Int) (b : Bool) : ∃ v, v ≥ 2 ∧ quillworkref01_Class.j3 (k + 1) c b = some v := by
  simp only [quillworkref01_Class.j3]
  repeat' split
  all_goals exact ⟨_, by decide, rfl⟩
theorem runesR_len_ (s : ByteArray) : ∀ k pos, (runesL_ s k pos).length ≤ k
  | 0, _ => Nat.le_refl _
  | k + 1, pos => by
    unfold runesL_
    split
    · rw [List.length_cons]
      have := runesR_len_ s k (pos + (Utf8.decode s pos).2)
      omega
    · simp
theorem class2R_ (k : Nat) (c : Int) (b : Bool) : ∃ v, v ≥ 2 ∧ quillworkref01_Class.j2 (k + 2) c b = some v := by
  simp only [quillworkref01_Class.j2]
  repeat' split
  · exact ⟨_, by decide, rfl⟩
  all_goals exact class3R_ _ _ _
theorem class1R_ (k : Nat) (c : Int) : ∃ v, v ≥ 2 ∧ quillworkref01_Class.j1 (k + 3) c false = some v := by
  simp only [quillworkref01_Class.j1]
  rw [if_neg (by decide)]
  repeat' split
  all_goals exact class2R_ _ _ _
theorem class1T_ (k : Nat) (c : Int) : quillworkref01_Class.j1 (k + 1) c true = some 1 := by
  simp only [quillworkref01_Class.j1]
  rfl
theorem class0R_ (c : Int) : (quillworkref01_Class.j0 20 c false).bind (fun t => some (decide (t ≥ 2))) = some (decide (32 ≤ c ∧ c ≠ 127)) := by
  simp only [quillworkref01_Class.j0]
  rw [if_neg (by decide)]
  by_cases h1 : c < 32
  · rw [if_pos h1, class1T_, decide_eq_false (by omega)]
    rfl
  · rw [if_neg h1]
    by_cases h2 : c = 127
    · subst h2
      rw [show ((127 : Int) == 127) = true by decide, class1T_]
      rfl
    · rw [show (c == 127) = false by simpa using h2]
      obtain ⟨v, hv, e⟩ := class1R_ 16 c
      rw [e, Option.bind_some, decide_eq_true hv, decide_eq_true (by omega)]
theorem class0T_ (c : Int) : (quillworkref01_Class.j0 20 c true).bind (fun t => some (decide (t ≥ 2))) = some false := by
  simp only [quillworkref01_Class.j0]
  rfl
theorem mayref_is_ (c : Int) : quillworkref01_May.f 20 c = some (mayR_ c) := by
  unfold quillworkref01_May.f quillworkref01_Class.f mayR_
  by_cases h0 : c < 0
  · rw [if_pos h0, class0T_, decide_eq_false (by omega)]
  · rw [if_neg h0]
    by_cases h1 : c > 1114111
    · rw [if_pos h1, class0T_, decide_eq_false (by omega)]
    · rw [if_neg h1]
      by_cases h2 : c ≥ 55296
      · rw [if_pos h2]
        by_cases h3 : c ≤ 57343
        · rw [decide_eq_true h3, class0T_, decide_eq_false (by omega)]
        · rw [decide_eq_false h3, class0R_]
          congr 2
          simp
          omega
      · rw [if_neg h2, class0R_]
        congr 2
        simp
        omega
set_option maxHeartbeats 1000000 in
theorem runes_calls_ (s : ByteArray) (w : World) (hs : s.size ≤ 70368744177664) : Calls Tryd.prog 157 #[.string s] w fun e w' => ∃ ad c, e = .returned (.slice (some ad) (runesL_ s s.size 0).length c) ∧ (runesL_ s s.size 0).length ≤ c ∧ Kd.C (Kd.int .i32) w' (some ad) (runesL_ s s.size 0).length (runesL_ s s.size 0) ∧ Below w.heap.size w w' := by
  have hlen := runesR_len_ s s.size 0
  have he : Conv.runesFrom s s.size 0 #[] = ((runesL_ s s.size 0).map fun x => Value.int .i32 x).toArray := by rw [runesFrom_eq_]; simp
  have hcv := run_runes_of_string (P := Tryd.prog) w 9 119 21 s Tryd.underlying9 Tryd.underlying119 Tryd.underlying21 (by rw [he]; simp; omega)
  rw [he] at hcv
  have hge := grownCap_ge w ((runesL_ s s.size 0).map fun x => Value.int .i32 x).toArray.size 0 21
  rw [show ((runesL_ s s.size 0).map fun x => Value.int .i32 x).toArray.size = (runesL_ s s.size 0).length by simp] at hcv hge
  generalize grownCap w (runesL_ s s.size 0).length 0 21 = cap at hcv hge
  generalize runesL_ s s.size 0 = L at hcv hge hlen ⊢
  have hcap : L.length ≤ cap := by omega
  have hb : Below w.heap.size w (w.drew.alloc (.cells ((L.map fun x => Value.int .i32 x).toArray ++ Array.replicate (cap - L.length) (.int .i32 0)) 21)) := below_alloc (below_drew1 (Below.refl _ _)) _
  have hblk : (w.drew.alloc (.cells ((L.map fun x => Value.int .i32 x).toArray ++ Array.replicate (cap - L.length) (.int .i32 0)) 21)).heap[w.heap.size]? = some (.cells ((L.map fun x => Value.int .i32 x).toArray ++ Array.replicate (cap - L.length) (.int .i32 0)) 21 (0, 0)) := heap_alloc_new w.drew _
  generalize w.drew.alloc (.cells ((L.map fun x => Value.int .i32 x).toArray ++ Array.replicate (cap - L.length) (.int .i32 0)) 21) = W at hcv hb hblk
  have hC : Kd.C (Kd.int .i32) W (some ⟨w.heap.size, 0, none⟩) L.length L := by
    refine ⟨rfl, by omega, fun _ => ⟨_, rfl, fun j p hj => ⟨[.int .i32 p], rfl, rfl, fun i u hu => ?_⟩⟩⟩
    cases i with
    | zero =>
      cases hu
      have hjl := (List.getElem?_eq_some_iff.1 hj).1
      rw [show j * (Kd.int .i32).sz + 0 = j from by show j * 1 + 0 = j; omega, add_plain, blk_cell hblk j, Array.getElem?_append_left (by simpa using hjl)]
      simp [hj]
    | succ i => simp at hu
  have HC := Aside0.mk hC
  have HB := Aside0.mk hb
  clear hblk hC hb he hge hlen
  go_enter Tryd.func157, Tryd.ntmps157
  go_wp2
  go_ret
  exact ⟨_, cap, rfl, hcap, HC.out, HB.out⟩
def quillworkref03_Value.f (a0 : ByteArray) : Option Bool := if a0.size ≤ 70368744177664 then some (isValue_ a0) else none
set_option maxRecDepth 100000 in
set_option maxHeartbeats 4000000 in
theorem quillworkref03_Value.calls (a0 : ByteArray) (r : Bool) (w : World) (h : quillworkref03_Value.f a0 = some r) :
    Calls Tryd.prog 145 #[.string a0] w fun e w' => e = .returned (.bool r) ∧ Below w.heap.size w w' := by
  unfold quillworkref03_Value.f at h
  by_cases hs : a0.size ≤ 70368744177664
  · rw [if_pos hs] at h
    obtain rfl := Option.some.inj h
    clear h
    have HR := Aside0.mk (runes_calls_ a0 w hs)
    have hvl := back_iff_ a0 (a0.size + 1) 0 (by omega) (by omega)
    have hml := runesMay_all_ a0 (a0.size + 1) 0
    rw [runesL_more_ a0 a0.size 0 (by omega)] at hml
    have hRN := runesL_N_ a0 (a0.size + 1) 0
    rw [runesL_more_ a0 a0.size 0 (by omega)] at hRN
    rw [← runesBytes_list_, ← hRN, List.drop_zero] at hvl
    clear hRN
    generalize runesL_ a0 a0.size 0 = L at HR hvl hml
    have hV : isValue_ a0 = (L.all mayR_ && (decide (a0.size ≤ 200) && Lib.validD a0.data.toList)) := by unfold isValue_; rw [hml]
    rw [hV]
    clear hV hml hs
    have HVL := Aside0.mk hvl
    clear hvl
    go_enter Tryd.func145, Tryd.ntmps145
    go_upto_region 2 with (go_at_call 157; refine HR.out.mono ?_; rintro e W ⟨ad, c, rfl, hc, hC, hb⟩; have HC := Aside0.mk hC; have HCc := Aside0.mk hc; have HB := Aside0.mk hb; clear hC hb hc)
    by_cases h2 : a0.size ≤ 200
    case neg =>
      have e1 : decide (200 < (a0.size : Int)) = true := decide_eq_true (by omega)
      have e2 : decide (a0.size ≤ 200) = false := decide_eq_false h2
      have HE := Aside0.mk e2
      clear h2 e2
      go_wp2
      go_ret
      exact ⟨by rw [HE.out, Bool.false_and, Bool.and_false]; rfl, HB.out⟩
    case pos =>
      have e1 : decide (200 < (a0.size : Int)) = false := decide_eq_false (by omega)
      have HE := Aside0.mk (show decide (a0.size ≤ 200) = true from decide_eq_true h2)
      have hcv : (convert 119 9 (.slice (some ad) L.length c)).run Tryd.prog W = .ok (.string (runesBytes L)) W := by
        have h1 := run_convert_runes (P := Tryd.prog) W 119 9 21 ad L.length c L (Nat.le_refl _) Tryd.underlying119 Tryd.underlying21 Tryd.underlying9 (fun j hj => by
          obtain ⟨ad', had, hc⟩ := HC.out.2.2 (by omega)
          obtain ⟨cc, hl, hk, hcell⟩ := hc j _ (List.getElem?_eq_getElem hj)
          have hk' : cc = [.int .i32 L[j]] := hk
          subst hk'
          injection had with had
          subst had
          have h2 := hcell 0 _ rfl
          rw [show (Kd.int .i32).sz = 1 from rfl, Nat.mul_one, Nat.add_zero] at h2
          rw [h2, List.getD_eq_getElem?_getD, List.getElem?_eq_getElem hj]
          rfl)
        rwa [List.take_length] at h1
      have HE2 := Aside0.mk (show (runesBytes L).toList = a0.toList ↔ Lib.validD a0.data.toList = true by rw [ByteArray.toList_eq, ByteArray.toList_eq]; exact HVL.out)
      clear HVL h2
      generalize runesBytes L = B at hcv HE2
      cases hB : (B.toList == a0.toList) with
      | false =>
        have HF := Aside0.mk (show Lib.validD a0.data.toList = false by
          cases hv : Lib.validD a0.data.toList with
          | false => rfl
          | true => exact absurd (HE2.out.2 hv) (beq_eq_false_iff_ne.1 hB))
        go_wp2
        go_ret
        exact ⟨by rw [HF.out, Bool.and_false, Bool.and_false]; rfl, HB.out⟩
      | true =>
        have HF := Aside0.mk (HE2.out.1 (beq_iff_eq.1 hB))
        go_wp2
        clear hcv hB e1 HE2 HR
        have HLN := Aside0.mk HC.out.2.1
        go_loopg [4] L.length (fun g v4 w' => ∃ (i : Nat), v4 = .int .i64 (i : Int) ∧ i + g = L.length ∧ Aside0 ((L.drop i).all mayR_ = L.all mayR_) ∧ Aside0 (Kd.C (Kd.int .i32) w' (some ad) L.length L) ∧ Aside0 (Below w.heap.size w w'))
        case atStart => exact ⟨0, rfl, by omega, ⟨rfl⟩, HC, HB⟩
        case round =>
          clear HC HB
          obtain ⟨i, rfl, hig, HA, HC, HB⟩ := hrel
          cases gk with
          | succ g' =>
            have hlt : i < L.length := by omega
            have e1 : decide ((i : Int) < (L.length : Int)) = true := decide_eq_true (by omega)
            have w1' : IntKind.i64.wrap ((i : Int) + 1) = ((i + 1 : Nat) : Int) := by rw [i64_w]; unfold wrap64; have := HLN.out; omega
            have hcell : wr.cell? (ad.add i) = some (.int .i32 L[i]) := by
              obtain ⟨ad', had, hc⟩ := HC.out.2.2 (by omega)
              obtain ⟨cc, hl, hk, hcell⟩ := hc i _ (List.getElem?_eq_getElem hlt)
              have hk' : cc = [.int .i32 L[i]] := hk
              subst hk'
              injection had with had
              subst had
              have h2 := hcell 0 _ rfl
              rwa [show (Kd.int .i32).sz = 1 from rfl, Nat.mul_one, Nat.add_zero] at h2
            have hdr : L.drop i = L[i] :: L.drop (i + 1) := List.drop_eq_getElem_cons hlt
            have HA2 := Aside0.mk HA.out
            rw [hdr, List.all_cons] at HA2
            generalize L[i] = x at hcell HA2
            have HM := Aside0.mk (fun W => quillworkref01_May.calls 20 x (mayR_ x) W (mayref_is_ x))
            clear hdr HA
            cases hm : mayR_ x with
            | true =>
              rw [hm] at HM HA2
              go_wp2_with (go_at_call 124; refine (HM.out _).mono ?_; rintro e w' ⟨rfl, ⟨nd, rfl⟩⟩)
              go_roundg g'
              case measure => omega
              case rel => exact ⟨i + 1, by first | rfl | (simp; done), by omega, ⟨by simpa using HA2.out⟩, ⟨Kd.C_below HC.out (pw_below_drewN (Below.refl _ _) _)⟩, ⟨pw_below_drewN HB.out _⟩⟩
            | false =>
              rw [hm] at HM HA2
              go_wp2_with (go_at_call 124; refine (HM.out _).mono ?_; rintro e w' ⟨rfl, ⟨nd, rfl⟩⟩)
              go_ret
              exact ⟨by rw [← HA2.out]; rfl, pw_below_drewN HB.out _⟩
          | zero =>
            obtain rfl : i = L.length := by omega
            have e1 : decide ((L.length : Int) < (L.length : Int)) = false := decide_eq_false (by omega)
            have HA2 := Aside0.mk HA.out
            rw [List.drop_length] at HA2
            go_wp2
            go_ret
            exact ⟨by rw [HF.out, HE.out, ← HA2.out]; rfl, HB.out⟩
  · rw [if_neg hs] at h
    exact absurd h (by simp)

end Go.Proofs.YtgdpknmffohhaaaDoor.Pl

namespace Go.Proofs.YtgdpknmffohhaaaDoor.Pl
open Go.RowKit Go.Proofs.YtgdpknmffohhaaaDoorW.PrintWords Go.Proofs.YtgdpknmffohhaaaDoorW.PrintLast Go.Proofs.YtgdpknmffohhaaaDoorW.PrintMore
attribute [local go_sem] max2_int min2_int max_two min_two max_three min_three max_four min_four   -- for this text's walks alone
set_option linter.unusedVariables false
set_option linter.unusedSimpArgs false

/-! ### quillworkref03_Target: function 131 -/
mutual
def quillworkref03_Target.j0 : Nat → ByteArray → Bool → Option (Bool)
  | 0, _, _ => none
  | k + 1, x0, x26 => if x26 = true then (some false) else (quillworkref03_Target.l0 k x0 (⟨#[106, 97, 118, 97, 115, 99, 114, 105, 112, 116]⟩ : ByteArray) 0)
def quillworkref03_Target.j2 : Nat → ByteArray → ByteArray → Int → Option (Bool)
  | 0, _, _, _ => none
  | k + 1, x0, x3, x4 => if x4 = (x3.size : Int) then (quillworkref03_Target.l1 k x0 x3 x4 0) else (some true)
def quillworkref03_Target.l1 : Nat → ByteArray → ByteArray → Int → Int → Option (Bool)
  | 0, _, _, _, _ => none
  | k + 1, x0, x3, x4, x5 => if x5 < x4 then (if 0 ≤ x5 then (if x5 < (x0.size : Int) then (if (bt x0 x5) ≥ 65 then (quillworkref03_Target.j4 k x0 x3 x4 x5 (bt x0 x5) (decide ((bt x0 x5) ≤ 90))) else (quillworkref03_Target.j4 k x0 x3 x4 x5 (bt x0 x5) false)) else (none)) else (none)) else (some false)
def quillworkref03_Target.j4 : Nat → ByteArray → ByteArray → Int → Int → Int → Bool → Option (Bool)
  | 0, _, _, _, _, _, _ => none
  | k + 1, x0, x3, x4, x5, x6, x56 => if x56 = true then (if 0 ≤ x5 then (if x5 < (x3.size : Int) then (if ((x6 + 32) % 256) = (bt x3 x5) then (quillworkref03_Target.l1 k x0 x3 x4 (wrap64 (x5 + 1))) else (some true)) else (none)) else (none)) else (if 0 ≤ x5 then (if x5 < (x3.size : Int) then (if x6 = (bt x3 x5) then (quillworkref03_Target.l1 k x0 x3 x4 (wrap64 (x5 + 1))) else (some true)) else (none)) else (none))
def quillworkref03_Target.l0 : Nat → ByteArray → ByteArray → Int → Option (Bool)
  | 0, _, _, _ => none
  | k + 1, x0, x3, x4 => if x4 < (x0.size : Int) then (if 0 ≤ x4 then (if (bt x0 x4) = 58 then (quillworkref03_Target.j2 k x0 x3 x4) else (quillworkref03_Target.l0 k x0 x3 (wrap64 (x4 + 1)))) else (none)) else (quillworkref03_Target.j2 k x0 x3 x4)
end
def quillworkref03_Target.f (k : Nat) (a0 : ByteArray) : Option (Bool) := (quillworkref03_Value.f a0).bind fun t207 => (if t207 = true then (if a0.toList = ([] : List UInt8) then (quillworkref03_Target.j0 k a0 true) else (if 0 < (a0.size : Int) then (if (bt a0 0) = 32 then (quillworkref03_Target.j0 k a0 true) else (if 0 ≤ (wrap64 ((a0.size : Int) - 1)) then (if (wrap64 ((a0.size : Int) - 1)) < (a0.size : Int) then (quillworkref03_Target.j0 k a0 ((bt a0 (wrap64 ((a0.size : Int) - 1))) == 32)) else (none)) else (none))) else (none))) else (quillworkref03_Target.j0 k a0 true))
set_option maxHeartbeats 8000000 in
set_option maxRecDepth 100000 in
theorem quillworkref03_Target.calls (k : Nat) (a0 : ByteArray) (r : Bool) (w : World) (h : quillworkref03_Target.f k a0 = some r) :
    Calls Tryd.prog 131 #[.string a0] w fun e w' => e = .returned (.bool r) ∧ Below w.heap.size w w' := by
  have HB := Aside0.mk (Below.refl w.heap.size w)
  have H : ((quillworkref03_Value.f a0).bind fun t207 => (if t207 = true then (if a0.toList = ([] : List UInt8) then (quillworkref03_Target.j0 k a0 true) else (if 0 < (a0.size : Int) then (if (bt a0 0) = 32 then (quillworkref03_Target.j0 k a0 true) else (if 0 ≤ (wrap64 ((a0.size : Int) - 1)) then (if (wrap64 ((a0.size : Int) - 1)) < (a0.size : Int) then (quillworkref03_Target.j0 k a0 ((bt a0 (wrap64 ((a0.size : Int) - 1))) == 32)) else (none)) else (none))) else (none))) else (quillworkref03_Target.j0 k a0 true))) = some r := h
  clear h
  have HC2 := Aside0.mk H
  clear H
  go_enter Tryd.func131, Tryd.ntmps131
  go_upto_region 1 with (fail)
  go_cut [26] (fun v26 wc => ∃ (kq : Nat) (x26_1 : Bool), v26 = .bool x26_1 ∧ Aside0 (quillworkref03_Target.j0 kq a0 x26_1 = some r) ∧ Aside0 (kq ≤ k) ∧ Aside0 (Below w.heap.size w wc))
  case first =>
    have H := HC2.out
    clear HC2
    replace H := Option.bind_eq_some_iff.mp H
    obtain ⟨t207, A30, H⟩ := H
    replace H : (if t207 = true then (if a0.toList = ([] : List UInt8) then (quillworkref03_Target.j0 k a0 true) else (if 0 < (a0.size : Int) then (if (bt a0 0) = 32 then (quillworkref03_Target.j0 k a0 true) else (if 0 ≤ (wrap64 ((a0.size : Int) - 1)) then (if (wrap64 ((a0.size : Int) - 1)) < (a0.size : Int) then (quillworkref03_Target.j0 k a0 ((bt a0 (wrap64 ((a0.size : Int) - 1))) == 32)) else (none)) else (none))) else (none))) else (quillworkref03_Target.j0 k a0 true)) = some r := H
    have A3 := Aside0.mk A30
    clear A30
    by_cases c4 : t207 = true
    · subst c4
      have H1 : (if a0.toList = ([] : List UInt8) then (quillworkref03_Target.j0 k a0 true) else (if 0 < (a0.size : Int) then (if (bt a0 0) = 32 then (quillworkref03_Target.j0 k a0 true) else (if 0 ≤ (wrap64 ((a0.size : Int) - 1)) then (if (wrap64 ((a0.size : Int) - 1)) < (a0.size : Int) then (quillworkref03_Target.j0 k a0 ((bt a0 (wrap64 ((a0.size : Int) - 1))) == 32)) else (none)) else (none))) else (none))) = some r := by rw [if_pos rfl] at H; exact H
      clear H
      have H := H1
      clear H1
      by_cases c5 : a0.toList = ([] : List UInt8)
      · rw [if_pos c5] at H
        have c5b0 : (a0.toList == ([] : List UInt8)) = true := beq_iff_eq.mpr c5
        have c5b1 : (a0.toList != ([] : List UInt8)) = false := bne_eq_false_iff_eq.mpr c5
        clear c5
        (first | rw [c5b0] | (simp only [i64_w, i32_w]; rw [c5b0]) | skip)
        have H' := Aside0.mk H
        clear H
        go_wp2_with (first | ((with_reducible refine gate_callee (f := 145) rfl ?_); refine goesL_ (some 8) rfl rfl Tryd.func145 (by kernel_rfl) rfl #[.string a0] rfl (by (try simp only [List.map_toArray, List.map_cons, List.map_nil]); first | done | rfl | (simp only [List.length_drop, List.length_take]; rfl)) ?_; (with_reducible refine (quillworkref03_Value.calls a0 true _ A3.out).mono ?_); rintro e w6 ⟨rfl, hb⟩; refine ⟨_, rfl, ?_⟩; have n0_ := Aside0.mk (below_step (by repeat (first | (with_reducible first | exact HB.out | apply below_alloc | apply pw_below_drewN | apply below_drew1) | exact HB.out)) hb); clear HB; have HB := n0_; clear n0_; (try clear hb); (try clear hb2); (try clear hk); (try clear hi)))
        go_meet
        case rel => exact ⟨_, (true), (by first | rfl | (simp; done) | (simp [*]; done)), H', ⟨by first | omega | exact Nat.le_refl _⟩, ⟨by repeat (first | (with_reducible first | exact HB.out | apply below_alloc | apply pw_below_drewN | apply below_drew1) | exact HB.out)⟩⟩
      · rw [if_neg c5] at H
        have c5b0 : (a0.toList == ([] : List UInt8)) = false := beq_eq_false_iff_ne.mpr c5
        have c5b1 : (a0.toList != ([] : List UInt8)) = true := bne_iff_ne.mpr c5
        (first | rw [c5b0] | (simp only [i64_w, i32_w]; rw [c5b0]) | skip)
        by_cases c7 : 0 < (a0.size : Int)
        · rw [if_pos c7] at H
          have c7b0 : decide (0 < (a0.size : Int)) = true := decide_eq_true c7
          have c7b1 : decide (0 < a0.size) = true := decide_eq_true (by omega)
          clear c7
          by_cases c9 : (bt a0 0) = 32
          · rw [if_pos c9] at H
            have c9b0 : ((bt a0 0) == 32) = true := beq_iff_eq.mpr c9
            have c9b1 : ((bt a0 0) != 32) = false := bne_eq_false_iff_eq.mpr c9
            clear c9
            have H' := Aside0.mk H
            clear H
            go_wp2_with (first | ((with_reducible refine gate_callee (f := 145) rfl ?_); refine goesL_ (some 8) rfl rfl Tryd.func145 (by kernel_rfl) rfl #[.string a0] rfl (by (try simp only [List.map_toArray, List.map_cons, List.map_nil]); first | done | rfl | (simp only [List.length_drop, List.length_take]; rfl)) ?_; (with_reducible refine (quillworkref03_Value.calls a0 true _ A3.out).mono ?_); rintro e w10 ⟨rfl, hb⟩; refine ⟨_, rfl, ?_⟩; have n0_ := Aside0.mk (below_step (by repeat (first | (with_reducible first | exact HB.out | apply below_alloc | apply pw_below_drewN | apply below_drew1) | exact HB.out)) hb); clear HB; have HB := n0_; clear n0_; (try clear hb); (try clear hb2); (try clear hk); (try clear hi); have p8 : 0 ≤ (0 : Int) := (by omega); have q8 : 0 < a0.size := (by have : (0 : Int) < (a0.size : Int) := of_decide_eq_true (by first | (with_reducible assumption) | assumption); omega); have hx8 : ∀ h : 0 < a0.size, ((a0[0]'h).toNat : Int) = bt a0 0 := bt_at a0 0; clear p8; have qi8 : (0 < (a0.size : Int)) = True := eq_true (of_decide_eq_true (by first | (with_reducible assumption) | assumption)); replace q8 := eq_true q8))
            go_meet
            case rel => exact ⟨_, (true), (by first | rfl | (simp; done) | (simp [*]; done)), H', ⟨by first | omega | exact Nat.le_refl _⟩, ⟨by repeat (first | (with_reducible first | exact HB.out | apply below_alloc | apply pw_below_drewN | apply below_drew1) | exact HB.out)⟩⟩
          · rw [if_neg c9] at H
            have c9b0 : ((bt a0 0) == 32) = false := beq_eq_false_iff_ne.mpr c9
            have c9b1 : ((bt a0 0) != 32) = true := bne_iff_ne.mpr c9
            obtain ⟨ji11, hji11⟩ : ∃ j_ : Int, (wrap64 ((a0.size : Int) - 1)) = j_ := ⟨_, rfl⟩
            replace H : (if 0 ≤ (ji11) then (if (ji11) < (a0.size : Int) then (quillworkref03_Target.j0 k a0 ((bt a0 (ji11)) == 32)) else (none)) else (none)) = some r := by first | (rw [hji11] at H; exact H) | (simp only [hji11] at H ⊢; exact H)
            (try rw [hji11] at A3)
            have hji11w : (IntKind.i64.wrap ((a0.size : Int) - 1)) = ji11 := (i64_w _).trans hji11
            by_cases c12 : 0 ≤ (ji11)
            · rw [if_pos c12] at H
              have c12b0 : decide (0 ≤ (ji11)) = true := decide_eq_true c12
              clear c12
              by_cases c13 : (ji11) < (a0.size : Int)
              · rw [if_pos c13] at H
                have c13b0 : decide ((ji11) < (a0.size : Int)) = true := decide_eq_true c13
                clear c13
                have H' := Aside0.mk H
                clear H
                go_wp2_with (first | ((with_reducible refine gate_callee (f := 145) rfl ?_); refine goesL_ (some 8) rfl rfl Tryd.func145 (by kernel_rfl) rfl #[.string a0] rfl (by (try simp only [List.map_toArray, List.map_cons, List.map_nil]); first | done | rfl | (simp only [List.length_drop, List.length_take]; rfl)) ?_; (with_reducible refine (quillworkref03_Value.calls a0 true _ A3.out).mono ?_); rintro e w15 ⟨rfl, hb⟩; refine ⟨_, rfl, ?_⟩; have n0_ := Aside0.mk (below_step (by repeat (first | (with_reducible first | exact HB.out | apply below_alloc | apply pw_below_drewN | apply below_drew1) | exact HB.out)) hb); clear HB; have HB := n0_; clear n0_; (try clear hb); (try clear hb2); (try clear hk); (try clear hi); have p8 : 0 ≤ (0 : Int) := (by omega); have q8 : 0 < a0.size := (by have : (0 : Int) < (a0.size : Int) := of_decide_eq_true (by first | (with_reducible assumption) | assumption); omega); have hx8 : ∀ h : 0 < a0.size, ((a0[0]'h).toNat : Int) = bt a0 0 := bt_at a0 0; clear p8; have qi8 : (0 < (a0.size : Int)) = True := eq_true (of_decide_eq_true (by first | (with_reducible assumption) | assumption)); replace q8 := eq_true q8; have p14 : 0 ≤ ((ji11) : Int) := of_decide_eq_true (by first | (with_reducible assumption) | assumption); have q14 : (ji11) < (a0.size : Int) := of_decide_eq_true (by first | (with_reducible assumption) | assumption); have hx14 := bt_at a0 (ji11); replace p14 := eq_true p14; replace q14 := eq_true q14))
                go_meet
                case rel => exact ⟨_, (((bt a0 (ji11)) == 32)), (by first | rfl | (simp; done) | (simp only [← hji11] <;> (first | rfl | (simp; done) | (simp; generalize ByteArray.toList _ = z_; cases z_ <;> rfl))) | (simp [*]; done)), H', ⟨by first | omega | exact Nat.le_refl _⟩, ⟨by repeat (first | (with_reducible first | exact HB.out | apply below_alloc | apply pw_below_drewN | apply below_drew1) | exact HB.out)⟩⟩
              · rw [if_neg c13] at H
                exact absurd H (by simp)
            · rw [if_neg c12] at H
              exact absurd H (by simp)
        · rw [if_neg c7] at H
          exact absurd H (by simp)
    · replace c4 := Bool.eq_false_iff.mpr c4
      subst c4
      have H1 : (quillworkref03_Target.j0 k a0 true) = some r := by rw [if_neg (show ¬ (false = true) by decide)] at H; exact H
      clear H
      have H := H1
      clear H1
      have H' := Aside0.mk H
      clear H
      go_wp2_with (first | ((with_reducible refine gate_callee (f := 145) rfl ?_); refine goesL_ (some 8) rfl rfl Tryd.func145 (by kernel_rfl) rfl #[.string a0] rfl (by (try simp only [List.map_toArray, List.map_cons, List.map_nil]); first | done | rfl | (simp only [List.length_drop, List.length_take]; rfl)) ?_; (with_reducible refine (quillworkref03_Value.calls a0 false _ A3.out).mono ?_); rintro e w16 ⟨rfl, hb⟩; refine ⟨_, rfl, ?_⟩; have n0_ := Aside0.mk (below_step (by repeat (first | (with_reducible first | exact HB.out | apply below_alloc | apply pw_below_drewN | apply below_drew1) | exact HB.out)) hb); clear HB; have HB := n0_; clear n0_; (try clear hb); (try clear hb2); (try clear hk); (try clear hi)))
      go_meet
      case rel => exact ⟨_, (true), (by first | rfl | (simp; done) | (simp [*]; done)), H', ⟨by first | omega | exact Nat.le_refl _⟩, ⟨by repeat (first | (with_reducible first | exact HB.out | apply below_alloc | apply pw_below_drewN | apply below_drew1) | exact HB.out)⟩⟩
  case rest =>
    clear HC2
    try clear c1
    try clear p1
    try clear q1
    try clear hx1
    try clear p2
    try clear c4
    try clear c5
    try clear c5b0
    try clear c5b1
    try clear p6
    try clear c7
    try clear c7b0
    try clear c7b1
    try clear p8
    try clear q8
    try clear hx8
    try clear qi8
    try clear c9
    try clear c9b0
    try clear c9b1
    try clear c12
    try clear c12b0
    try clear c13
    try clear c13b0
    try clear c14
    try clear p14
    try clear q14
    try clear hx14
    try clear p14
    try clear p8
    try clear q14
    try clear q8
    obtain ⟨kq, x26_1, rfl, HA, HJ1, HB⟩ := hcut
    cases kq with
    | zero => exact absurd HA.out (by simp [quillworkref03_Target.j0])
    | succ kj1 =>
      have H := HA.out
      clear HA
      simp only [quillworkref03_Target.j0] at H
      by_cases c17 : x26_1 = true
      · subst c17
        have H1 : (some false) = some r := by rw [if_pos rfl] at H; exact H
        clear H
        have H := H1
        clear H1
        obtain rfl := Option.some.inj H
        go_wp2
        go_ret
        exact ⟨by first | rfl | (simp [errW_none, errW_some] <;> rfl) | (simp [*, errW_none, errW_some] <;> rfl), by repeat (first | (with_reducible first | exact HB.out | apply below_alloc | apply pw_below_drewN | apply below_drew1) | exact HB.out)⟩
      · replace c17 := Bool.eq_false_iff.mpr c17
        subst c17
        have H1 : (quillworkref03_Target.l0 kj1 a0 (⟨#[106, 97, 118, 97, 115, 99, 114, 105, 112, 116]⟩ : ByteArray) 0) = some r := by rw [if_neg (show ¬ (false = true) by decide)] at H; exact H
        clear H
        have H := H1
        clear H1
        have HC18 := Aside0.mk H
        clear H
        go_upto_block 0 with (fail)
        go_cut [4] (fun v4 wc => ∃ (kq : Nat) (x4_17 : Int), v4 = .int .i64 x4_17 ∧ Aside0 (quillworkref03_Target.j2 kq a0 (⟨#[106, 97, 118, 97, 115, 99, 114, 105, 112, 116]⟩ : ByteArray) x4_17 = some r) ∧ Aside0 (kq ≤ kj1) ∧ Aside0 (Below w.heap.size w wc))
        case first =>
          have H := HC18.out
          clear HC18
          have H' := Aside0.mk H
          clear H
          go_wp2
          go_loopg [4] kj1 (fun kq v4 w' => ∃ (x4_2 : Int), v4 = .int .i64 x4_2 ∧ Aside0 (quillworkref03_Target.l0 kq a0 (⟨#[106, 97, 118, 97, 115, 99, 114, 105, 112, 116]⟩ : ByteArray) x4_2 = some r) ∧ Aside0 (kq ≤ kj1) ∧ Aside0 (Below w.heap.size w w'))
          case atStart => exact ⟨(0), (by first | rfl | (simp; done) | (simp [*]; done)), H', ⟨Nat.le_refl _⟩, ⟨by repeat (first | (with_reducible first | exact HB.out | apply below_alloc | apply pw_below_drewN | apply below_drew1) | exact HB.out)⟩⟩
          case round =>
            clear H'
            try clear c1
            try clear p1
            try clear q1
            try clear hx1
            try clear p2
            try clear c4
            try clear c5
            try clear c5b0
            try clear c5b1
            try clear p6
            try clear c7
            try clear c7b0
            try clear c7b1
            try clear p8
            try clear q8
            try clear hx8
            try clear qi8
            try clear c9
            try clear c9b0
            try clear c9b1
            try clear c12
            try clear c12b0
            try clear c13
            try clear c13b0
            try clear c14
            try clear p14
            try clear q14
            try clear hx14
            try clear c17
            try clear p1
            try clear p14
            try clear p2
            try clear p6
            try clear p8
            try clear q1
            try clear q14
            try clear q8
            obtain ⟨x4_2, rfl, HA, HK2, HB⟩ := hrel
            cases gk with
            | zero => exact absurd HA.out (by simp [quillworkref03_Target.l0])
            | succ k2 =>
              have H := HA.out
              clear HA
              simp only [quillworkref03_Target.l0] at H
              by_cases c19 : x4_2 < (a0.size : Int)
              · rw [if_pos c19] at H
                have c19b0 : decide (x4_2 < (a0.size : Int)) = true := decide_eq_true c19
                clear c19
                (first | rw [c19b0] | (simp only [i64_w, i32_w]; rw [c19b0]) | skip)
                by_cases c20 : 0 ≤ x4_2
                · rw [if_pos c20] at H
                  have c20b0 : decide (0 ≤ x4_2) = true := decide_eq_true c20
                  clear c20
                  by_cases c22 : (bt a0 x4_2) = 58
                  · rw [if_pos c22] at H
                    have c22b0 : ((bt a0 x4_2) == 58) = true := beq_iff_eq.mpr c22
                    have c22b1 : ((bt a0 x4_2) != 58) = false := bne_eq_false_iff_eq.mpr c22
                    clear c22
                    have H' := Aside0.mk H
                    clear H
                    have p21 : 0 ≤ (x4_2 : Int) := of_decide_eq_true (by first | (with_reducible assumption) | assumption)
                    have q21 : x4_2 < (a0.size : Int) := of_decide_eq_true (by first | (with_reducible assumption) | assumption)
                    have hx21 := bt_at a0 x4_2
                    replace p21 := eq_true p21
                    replace q21 := eq_true q21
                    go_wp2
                    go_meet
                    case rel => exact ⟨_, (x4_2), (by first | rfl | (simp; done) | (simp [*]; done)), H', ⟨by have := HJ1.out; have := HK2.out; first | omega | exact Nat.le_refl _⟩, ⟨by repeat (first | (with_reducible first | exact HB.out | apply below_alloc | apply pw_below_drewN | apply below_drew1) | exact HB.out)⟩⟩
                  · rw [if_neg c22] at H
                    have c22b0 : ((bt a0 x4_2) == 58) = false := beq_eq_false_iff_ne.mpr c22
                    have c22b1 : ((bt a0 x4_2) != 58) = true := bne_iff_ne.mpr c22
                    have H' := Aside0.mk H
                    clear H
                    have p21 : 0 ≤ (x4_2 : Int) := of_decide_eq_true (by first | (with_reducible assumption) | assumption)
                    have q21 : x4_2 < (a0.size : Int) := of_decide_eq_true (by first | (with_reducible assumption) | assumption)
                    have hx21 := bt_at a0 x4_2
                    replace p21 := eq_true p21
                    replace q21 := eq_true q21
                    go_wp2
                    go_roundg k2
                    case measure => have := HJ1.out; have := HK2.out; omega
                    case rel => exact ⟨(wrap64 (x4_2 + 1)), (by first | rfl | (simp; done) | (simp [*]; done)), H', ⟨by have := HJ1.out; have := HK2.out; omega⟩, ⟨by repeat (first | (with_reducible first | exact HB.out | apply below_alloc | apply pw_below_drewN | apply below_drew1) | exact HB.out)⟩⟩
                · rw [if_neg c20] at H
                  exact absurd H (by simp)
              · rw [if_neg c19] at H
                have c19b0 : decide (x4_2 < (a0.size : Int)) = false := decide_eq_false c19
                clear c19
                (first | rw [c19b0] | (simp only [i64_w, i32_w]; rw [c19b0]) | skip)
                have H' := Aside0.mk H
                clear H
                go_wp2
                go_meet
                case rel => exact ⟨_, (x4_2), (by first | rfl | (simp; done) | (simp [*]; done)), H', ⟨by have := HJ1.out; have := HK2.out; first | omega | exact Nat.le_refl _⟩, ⟨by repeat (first | (with_reducible first | exact HB.out | apply below_alloc | apply pw_below_drewN | apply below_drew1) | exact HB.out)⟩⟩
        case rest =>
          clear HC18
          try clear c1
          try clear p1
          try clear q1
          try clear hx1
          try clear c2
          try clear p2
          try clear q2
          try clear hx2
          try clear c4
          try clear c5
          try clear c5b0
          try clear c5b1
          try clear p6
          try clear c7
          try clear c7b0
          try clear c7b1
          try clear p8
          try clear q8
          try clear hx8
          try clear qi8
          try clear c9
          try clear c9b0
          try clear c9b1
          try clear c12
          try clear c12b0
          try clear c13
          try clear c13b0
          try clear c14
          try clear p14
          try clear q14
          try clear hx14
          try clear c17
          try clear c19
          try clear c19b0
          try clear c20
          try clear c20b0
          try clear p21
          try clear q21
          try clear hx21
          try clear c22
          try clear c22b0
          try clear c22b1
          try clear p1
          try clear p14
          try clear p2
          try clear p21
          try clear p6
          try clear p8
          try clear q1
          try clear q14
          try clear q21
          try clear q8
          obtain ⟨kq, x4_17, rfl, HA, HJ17, HB⟩ := hcut
          cases kq with
          | zero => exact absurd HA.out (by simp [quillworkref03_Target.j2])
          | succ kj17 =>
            have H := HA.out
            clear HA
            simp only [quillworkref03_Target.j2] at H
            by_cases c23 : x4_17 = ((⟨#[106, 97, 118, 97, 115, 99, 114, 105, 112, 116]⟩ : ByteArray).size : Int)
            · rw [if_pos c23] at H
              have c23b0 : (x4_17 == ((⟨#[106, 97, 118, 97, 115, 99, 114, 105, 112, 116]⟩ : ByteArray).size : Int)) = true := beq_iff_eq.mpr c23
              have c23b0s : (x4_17 == 10) = true := c23b0
              have c23b1 : (x4_17 != ((⟨#[106, 97, 118, 97, 115, 99, 114, 105, 112, 116]⟩ : ByteArray).size : Int)) = false := bne_eq_false_iff_eq.mpr c23
              have c23b1s : (x4_17 != 10) = false := c23b1
              clear c23
              have H' := Aside0.mk H
              clear H
              go_wp2
              go_loopg [5] kj17 (fun kq v5 w' => ∃ (x5_3 : Int), v5 = .int .i64 x5_3 ∧ Aside0 (quillworkref03_Target.l1 kq a0 (⟨#[106, 97, 118, 97, 115, 99, 114, 105, 112, 116]⟩ : ByteArray) x4_17 x5_3 = some r) ∧ Aside0 (kq ≤ kj17) ∧ Aside0 (Below w.heap.size w w'))
              case atStart => exact ⟨(0), (by first | rfl | (simp; done) | (simp [*]; done)), H', ⟨Nat.le_refl _⟩, ⟨by repeat (first | (with_reducible first | exact HB.out | apply below_alloc | apply pw_below_drewN | apply below_drew1) | exact HB.out)⟩⟩
              case round =>
                clear H'
                try clear c1
                try clear p1
                try clear q1
                try clear hx1
                try clear c2
                try clear p2
                try clear q2
                try clear hx2
                try clear c4
                try clear c5
                try clear c5b0
                try clear c5b1
                try clear p6
                try clear c7
                try clear c7b0
                try clear c7b1
                try clear p8
                try clear q8
                try clear hx8
                try clear qi8
                try clear c9
                try clear c9b0
                try clear c9b1
                try clear c12
                try clear c12b0
                try clear c13
                try clear c13b0
                try clear c14
                try clear p14
                try clear q14
                try clear hx14
                try clear c17
                try clear c19
                try clear c19b0
                try clear c20
                try clear c20b0
                try clear p21
                try clear q21
                try clear hx21
                try clear c22
                try clear c22b0
                try clear c22b1
                try clear c23
                try clear c23b0
                try clear c23b1
                try clear p1
                try clear p14
                try clear p2
                try clear p21
                try clear p6
                try clear p8
                try clear q1
                try clear q14
                try clear q2
                try clear q21
                try clear q8
                obtain ⟨x5_3, rfl, HA, HK3, HB⟩ := hrel
                cases gk with
                | zero => exact absurd HA.out (by simp [quillworkref03_Target.l1])
                | succ k3 =>
                  have H := HA.out
                  clear HA
                  simp only [quillworkref03_Target.l1] at H
                  by_cases c24 : x5_3 < x4_17
                  · rw [if_pos c24] at H
                    have c24b0 : decide (x5_3 < x4_17) = true := decide_eq_true c24
                    clear c24
                    by_cases c25 : 0 ≤ x5_3
                    · rw [if_pos c25] at H
                      have c25b0 : decide (0 ≤ x5_3) = true := decide_eq_true c25
                      clear c25
                      by_cases c26 : x5_3 < (a0.size : Int)
                      · rw [if_pos c26] at H
                        have c26b0 : decide (x5_3 < (a0.size : Int)) = true := decide_eq_true c26
                        clear c26
                        have HC28 := Aside0.mk H
                        clear H
                        have p27 : 0 ≤ (x5_3 : Int) := of_decide_eq_true (by first | (with_reducible assumption) | assumption)
                        have q27 : x5_3 < (a0.size : Int) := of_decide_eq_true (by first | (with_reducible assumption) | assumption)
                        have hx27 := bt_at a0 x5_3
                        replace p27 := eq_true p27
                        replace q27 := eq_true q27
                        go_upto_region 13 with (fail)
                        go_cut [56] (fun v56 wc => ∃ (kq : Nat) (x56_27 : Bool), v56 = .bool x56_27 ∧ Aside0 (quillworkref03_Target.j4 kq a0 (⟨#[106, 97, 118, 97, 115, 99, 114, 105, 112, 116]⟩ : ByteArray) x4_17 x5_3 (bt a0 x5_3) x56_27 = some r) ∧ Aside0 (kq ≤ k3) ∧ Aside0 (Below w.heap.size w wc))
                        case first =>
                          have H := HC28.out
                          clear HC28
                          by_cases c29 : (bt a0 x5_3) ≥ 65
                          · rw [if_pos c29] at H
                            have c29b0 : decide (65 ≤ (bt a0 x5_3)) = true := decide_eq_true c29
                            clear c29
                            (first | rw [c29b0] | (simp only [i64_w, i32_w]; rw [c29b0]) | skip)
                            have H' := Aside0.mk H
                            clear H
                            go_wp2
                            go_meet
                            case rel => exact ⟨_, (decide ((bt a0 x5_3) ≤ 90)), (by first | rfl | (simp; done) | (simp [*]; done)), H', ⟨by have := HJ1.out; have := HJ17.out; have := HK3.out; first | omega | exact Nat.le_refl _⟩, ⟨by repeat (first | (with_reducible first | exact HB.out | apply below_alloc | apply pw_below_drewN | apply below_drew1) | exact HB.out)⟩⟩
                          · rw [if_neg c29] at H
                            have c29b0 : decide (65 ≤ (bt a0 x5_3)) = false := decide_eq_false c29
                            clear c29
                            (first | rw [c29b0] | (simp only [i64_w, i32_w]; rw [c29b0]) | skip)
                            have H' := Aside0.mk H
                            clear H
                            go_wp2
                            go_meet
                            case rel => exact ⟨_, (false), (by first | rfl | (simp; done) | (simp [*]; done)), H', ⟨by have := HJ1.out; have := HJ17.out; have := HK3.out; first | omega | exact Nat.le_refl _⟩, ⟨by repeat (first | (with_reducible first | exact HB.out | apply below_alloc | apply pw_below_drewN | apply below_drew1) | exact HB.out)⟩⟩
                        case rest =>
                          clear HC28
                          try clear c1
                          try clear p1
                          try clear q1
                          try clear hx1
                          try clear c2
                          try clear p2
                          try clear q2
                          try clear hx2
                          try clear c4
                          try clear c5
                          try clear c5b0
                          try clear c5b1
                          try clear p6
                          try clear c7
                          try clear c7b0
                          try clear c7b1
                          try clear p8
                          try clear q8
                          try clear hx8
                          try clear qi8
                          try clear c9
                          try clear c9b0
                          try clear c9b1
                          try clear c12
                          try clear c12b0
                          try clear c13
                          try clear c13b0
                          try clear c14
                          try clear p14
                          try clear q14
                          try clear hx14
                          try clear c17
                          try clear c19
                          try clear c19b0
                          try clear c20
                          try clear c20b0
                          try clear p21
                          try clear q21
                          try clear hx21
                          try clear c22
                          try clear c22b0
                          try clear c22b1
                          try clear c23
                          try clear c23b0
                          try clear c23b1
                          try clear c24
                          try clear c24b0
                          try clear c25
                          try clear c25b0
                          try clear c26
                          try clear c26b0
                          try clear p27
                          try clear q27
                          try clear hx27
                          try clear c29
                          try clear c29b0
                          try clear p1
                          try clear p14
                          try clear p2
                          try clear p21
                          try clear p27
                          try clear p6
                          try clear p8
                          try clear q1
                          try clear q14
                          try clear q2
                          try clear q21
                          try clear q27
                          try clear q8
                          obtain ⟨kq, x56_27, rfl, HA, HJ27, HB⟩ := hcut
                          cases kq with
                          | zero => exact absurd HA.out (by simp [quillworkref03_Target.j4])
                          | succ kj27 =>
                            have H := HA.out
                            clear HA
                            simp only [quillworkref03_Target.j4] at H
                            by_cases c30 : x56_27 = true
                            · subst c30
                              have H1 : (if 0 ≤ x5_3 then (if x5_3 < ((⟨#[106, 97, 118, 97, 115, 99, 114, 105, 112, 116]⟩ : ByteArray).size : Int) then (if (((bt a0 x5_3) + 32) % 256) = (bt (⟨#[106, 97, 118, 97, 115, 99, 114, 105, 112, 116]⟩ : ByteArray) x5_3) then (quillworkref03_Target.l1 kj27 a0 (⟨#[106, 97, 118, 97, 115, 99, 114, 105, 112, 116]⟩ : ByteArray) x4_17 (wrap64 (x5_3 + 1))) else (some true)) else (none)) else (none)) = some r := by rw [if_pos rfl] at H; exact H
                              clear H
                              have H := H1
                              clear H1
                              by_cases c31 : 0 ≤ x5_3
                              · rw [if_pos c31] at H
                                have c31b0 : decide (0 ≤ x5_3) = true := decide_eq_true c31
                                clear c31
                                by_cases c32 : x5_3 < ((⟨#[106, 97, 118, 97, 115, 99, 114, 105, 112, 116]⟩ : ByteArray).size : Int)
                                · rw [if_pos c32] at H
                                  have c32b0 : decide (x5_3 < ((⟨#[106, 97, 118, 97, 115, 99, 114, 105, 112, 116]⟩ : ByteArray).size : Int)) = true := decide_eq_true c32
                                  have c32b0s : decide (x5_3 < 10) = true := c32b0
                                  clear c32
                                  by_cases c34 : (((bt a0 x5_3) + 32) % 256) = (bt (⟨#[106, 97, 118, 97, 115, 99, 114, 105, 112, 116]⟩ : ByteArray) x5_3)
                                  · rw [if_pos c34] at H
                                    have c34b0 : ((((bt a0 x5_3) + 32) % 256) == (bt (⟨#[106, 97, 118, 97, 115, 99, 114, 105, 112, 116]⟩ : ByteArray) x5_3)) = true := beq_iff_eq.mpr c34
                                    have c34b1 : ((((bt a0 x5_3) + 32) % 256) != (bt (⟨#[106, 97, 118, 97, 115, 99, 114, 105, 112, 116]⟩ : ByteArray) x5_3)) = false := bne_eq_false_iff_eq.mpr c34
                                    clear c34
                                    have H' := Aside0.mk H
                                    clear H
                                    have p33 : 0 ≤ (x5_3 : Int) := of_decide_eq_true (by first | (with_reducible assumption) | assumption)
                                    have q33 : x5_3 < (10 : Int) := of_decide_eq_true (by first | (with_reducible assumption) | assumption)
                                    have hx33 := bt_at (⟨#[106, 97, 118, 97, 115, 99, 114, 105, 112, 116]⟩ : ByteArray) x5_3
                                    replace p33 := eq_true p33
                                    replace q33 := eq_true q33
                                    go_wp2
                                    go_roundg kj27
                                    case measure => have := HJ1.out; have := HJ17.out; have := HK3.out; have := HJ27.out; omega
                                    case rel => exact ⟨(wrap64 (x5_3 + 1)), (by first | rfl | (simp; done) | (simp [*]; done)), H', ⟨by have := HJ1.out; have := HJ17.out; have := HK3.out; have := HJ27.out; omega⟩, ⟨by repeat (first | (with_reducible first | exact HB.out | apply below_alloc | apply pw_below_drewN | apply below_drew1) | exact HB.out)⟩⟩
                                  · rw [if_neg c34] at H
                                    have c34b0 : ((((bt a0 x5_3) + 32) % 256) == (bt (⟨#[106, 97, 118, 97, 115, 99, 114, 105, 112, 116]⟩ : ByteArray) x5_3)) = false := beq_eq_false_iff_ne.mpr c34
                                    have c34b1 : ((((bt a0 x5_3) + 32) % 256) != (bt (⟨#[106, 97, 118, 97, 115, 99, 114, 105, 112, 116]⟩ : ByteArray) x5_3)) = true := bne_iff_ne.mpr c34
                                    obtain rfl := Option.some.inj H
                                    have p33 : 0 ≤ (x5_3 : Int) := of_decide_eq_true (by first | (with_reducible assumption) | assumption)
                                    have q33 : x5_3 < (10 : Int) := of_decide_eq_true (by first | (with_reducible assumption) | assumption)
                                    have hx33 := bt_at (⟨#[106, 97, 118, 97, 115, 99, 114, 105, 112, 116]⟩ : ByteArray) x5_3
                                    replace p33 := eq_true p33
                                    replace q33 := eq_true q33
                                    go_wp2
                                    go_ret
                                    exact ⟨by first | rfl | (simp [errW_none, errW_some] <;> rfl) | (simp [*, errW_none, errW_some] <;> rfl), by repeat (first | (with_reducible first | exact HB.out | apply below_alloc | apply pw_below_drewN | apply below_drew1) | exact HB.out)⟩
                                · rw [if_neg c32] at H
                                  exact absurd H (by simp)
                              · rw [if_neg c31] at H
                                exact absurd H (by simp)
                            · replace c30 := Bool.eq_false_iff.mpr c30
                              subst c30
                              have H1 : (if 0 ≤ x5_3 then (if x5_3 < ((⟨#[106, 97, 118, 97, 115, 99, 114, 105, 112, 116]⟩ : ByteArray).size : Int) then (if (bt a0 x5_3) = (bt (⟨#[106, 97, 118, 97, 115, 99, 114, 105, 112, 116]⟩ : ByteArray) x5_3) then (quillworkref03_Target.l1 kj27 a0 (⟨#[106, 97, 118, 97, 115, 99, 114, 105, 112, 116]⟩ : ByteArray) x4_17 (wrap64 (x5_3 + 1))) else (some true)) else (none)) else (none)) = some r := by rw [if_neg (show ¬ (false = true) by decide)] at H; exact H
                              clear H
                              have H := H1
                              clear H1
                              by_cases c35 : 0 ≤ x5_3
                              · rw [if_pos c35] at H
                                have c35b0 : decide (0 ≤ x5_3) = true := decide_eq_true c35
                                clear c35
                                by_cases c36 : x5_3 < ((⟨#[106, 97, 118, 97, 115, 99, 114, 105, 112, 116]⟩ : ByteArray).size : Int)
                                · rw [if_pos c36] at H
                                  have c36b0 : decide (x5_3 < ((⟨#[106, 97, 118, 97, 115, 99, 114, 105, 112, 116]⟩ : ByteArray).size : Int)) = true := decide_eq_true c36
                                  have c36b0s : decide (x5_3 < 10) = true := c36b0
                                  clear c36
                                  by_cases c38 : (bt a0 x5_3) = (bt (⟨#[106, 97, 118, 97, 115, 99, 114, 105, 112, 116]⟩ : ByteArray) x5_3)
                                  · rw [if_pos c38] at H
                                    have c38b0 : ((bt a0 x5_3) == (bt (⟨#[106, 97, 118, 97, 115, 99, 114, 105, 112, 116]⟩ : ByteArray) x5_3)) = true := beq_iff_eq.mpr c38
                                    have c38b1 : ((bt a0 x5_3) != (bt (⟨#[106, 97, 118, 97, 115, 99, 114, 105, 112, 116]⟩ : ByteArray) x5_3)) = false := bne_eq_false_iff_eq.mpr c38
                                    clear c38
                                    have H' := Aside0.mk H
                                    clear H
                                    have p37 : 0 ≤ (x5_3 : Int) := of_decide_eq_true (by first | (with_reducible assumption) | assumption)
                                    have q37 : x5_3 < (10 : Int) := of_decide_eq_true (by first | (with_reducible assumption) | assumption)
                                    have hx37 := bt_at (⟨#[106, 97, 118, 97, 115, 99, 114, 105, 112, 116]⟩ : ByteArray) x5_3
                                    replace p37 := eq_true p37
                                    replace q37 := eq_true q37
                                    go_wp2
                                    go_roundg kj27
                                    case measure => have := HJ1.out; have := HJ17.out; have := HK3.out; have := HJ27.out; omega
                                    case rel => exact ⟨(wrap64 (x5_3 + 1)), (by first | rfl | (simp; done) | (simp [*]; done)), H', ⟨by have := HJ1.out; have := HJ17.out; have := HK3.out; have := HJ27.out; omega⟩, ⟨by repeat (first | (with_reducible first | exact HB.out | apply below_alloc | apply pw_below_drewN | apply below_drew1) | exact HB.out)⟩⟩
                                  · rw [if_neg c38] at H
                                    have c38b0 : ((bt a0 x5_3) == (bt (⟨#[106, 97, 118, 97, 115, 99, 114, 105, 112, 116]⟩ : ByteArray) x5_3)) = false := beq_eq_false_iff_ne.mpr c38
                                    have c38b1 : ((bt a0 x5_3) != (bt (⟨#[106, 97, 118, 97, 115, 99, 114, 105, 112, 116]⟩ : ByteArray) x5_3)) = true := bne_iff_ne.mpr c38
                                    obtain rfl := Option.some.inj H
                                    have p37 : 0 ≤ (x5_3 : Int) := of_decide_eq_true (by first | (with_reducible assumption) | assumption)
                                    have q37 : x5_3 < (10 : Int) := of_decide_eq_true (by first | (with_reducible assumption) | assumption)
                                    have hx37 := bt_at (⟨#[106, 97, 118, 97, 115, 99, 114, 105, 112, 116]⟩ : ByteArray) x5_3
                                    replace p37 := eq_true p37
                                    replace q37 := eq_true q37
                                    go_wp2
                                    go_ret
                                    exact ⟨by first | rfl | (simp [errW_none, errW_some] <;> rfl) | (simp [*, errW_none, errW_some] <;> rfl), by repeat (first | (with_reducible first | exact HB.out | apply below_alloc | apply pw_below_drewN | apply below_drew1) | exact HB.out)⟩
                                · rw [if_neg c36] at H
                                  exact absurd H (by simp)
                              · rw [if_neg c35] at H
                                exact absurd H (by simp)
                      · rw [if_neg c26] at H
                        exact absurd H (by simp)
                    · rw [if_neg c25] at H
                      exact absurd H (by simp)
                  · rw [if_neg c24] at H
                    have c24b0 : decide (x5_3 < x4_17) = false := decide_eq_false c24
                    clear c24
                    obtain rfl := Option.some.inj H
                    go_wp2
                    go_ret
                    exact ⟨by first | rfl | (simp [errW_none, errW_some] <;> rfl) | (simp [*, errW_none, errW_some] <;> rfl), by repeat (first | (with_reducible first | exact HB.out | apply below_alloc | apply pw_below_drewN | apply below_drew1) | exact HB.out)⟩
            · rw [if_neg c23] at H
              have c23b0 : (x4_17 == ((⟨#[106, 97, 118, 97, 115, 99, 114, 105, 112, 116]⟩ : ByteArray).size : Int)) = false := beq_eq_false_iff_ne.mpr c23
              have c23b0s : (x4_17 == 10) = false := c23b0
              have c23b1 : (x4_17 != ((⟨#[106, 97, 118, 97, 115, 99, 114, 105, 112, 116]⟩ : ByteArray).size : Int)) = true := bne_iff_ne.mpr c23
              have c23b1s : (x4_17 != 10) = true := c23b1
              obtain rfl := Option.some.inj H
              go_wp2
              go_ret
              exact ⟨by first | rfl | (simp [errW_none, errW_some] <;> rfl) | (simp [*, errW_none, errW_some] <;> rfl), by repeat (first | (with_reducible first | exact HB.out | apply below_alloc | apply pw_below_drewN | apply below_drew1) | exact HB.out)⟩

end Go.Proofs.YtgdpknmffohhaaaDoor.Pl

namespace Go.Proofs.YtgdpknmffohhaaaDoor.Pl
open Go.RowKit Go.Proofs.YtgdpknmffohhaaaDoorW.PrintWords Go.Proofs.YtgdpknmffohhaaaDoorW.PrintLast Go.Proofs.YtgdpknmffohhaaaDoorW.PrintMore
attribute [local go_sem] max2_int min2_int max_two min_two max_three min_three max_four min_four   -- for this text's walks alone
set_option linter.unusedVariables false
set_option linter.unusedSimpArgs false

/-! ### quillworkref05_Link: function 107 -/
def quillworkref05_Link.f (k : Nat) (a0 : ByteArray) : Option (Bool) := if a0.toList = ([] : List UInt8) then (some true) else ((quillworkref03_Target.f k a0).bind fun t208 => (some t208))
set_option maxHeartbeats 8000000 in
set_option maxRecDepth 100000 in
theorem quillworkref05_Link.calls (k : Nat) (a0 : ByteArray) (r : Bool) (w : World) (h : quillworkref05_Link.f k a0 = some r) :
    Calls Tryd.prog 107 #[.string a0] w fun e w' => e = .returned (.bool r) ∧ Below w.heap.size w w' := by
  have HB := Aside0.mk (Below.refl w.heap.size w)
  have H : (if a0.toList = ([] : List UInt8) then (some true) else ((quillworkref03_Target.f k a0).bind fun t208 => (some t208))) = some r := h
  clear h
  by_cases c2 : a0.toList = ([] : List UInt8)
  · rw [if_pos c2] at H
    have c2b0 : (a0.toList == ([] : List UInt8)) = true := beq_iff_eq.mpr c2
    have c2b1 : (a0.toList != ([] : List UInt8)) = false := bne_eq_false_iff_eq.mpr c2
    clear c2
    obtain rfl := Option.some.inj H
    go_enter Tryd.func107, Tryd.ntmps107
    go_wp2
    go_ret
    exact ⟨by first | rfl | (simp [errW_none, errW_some] <;> rfl) | (simp [*, errW_none, errW_some] <;> rfl), by repeat (first | (with_reducible first | exact HB.out | apply below_alloc | apply pw_below_drewN | apply below_drew1) | exact HB.out)⟩
  · rw [if_neg c2] at H
    have c2b0 : (a0.toList == ([] : List UInt8)) = false := beq_eq_false_iff_ne.mpr c2
    have c2b1 : (a0.toList != ([] : List UInt8)) = true := bne_iff_ne.mpr c2
    replace H := Option.bind_eq_some_iff.mp H
    obtain ⟨t208, A30, H⟩ := H
    replace H : (some t208) = some r := H
    have A3 := Aside0.mk A30
    clear A30
    obtain rfl := Option.some.inj H
    go_enter Tryd.func107, Tryd.ntmps107
    go_wp2_with (first | (go_at_call 131; (with_reducible refine (quillworkref03_Target.calls k a0 t208 _ A3.out).mono ?_); rintro e w4 ⟨rfl, hb⟩; have n0_ := Aside0.mk (below_step (by repeat (first | (with_reducible first | exact HB.out | apply below_alloc | apply pw_below_drewN | apply below_drew1) | exact HB.out)) hb); clear HB; have HB := n0_; clear n0_; (try clear hb); (try clear hb2); (try clear hk); (try clear hi)))
    go_ret
    exact ⟨by first | rfl | (simp [errW_none, errW_some] <;> rfl) | (simp [*, errW_none, errW_some] <;> rfl), by repeat (first | (with_reducible first | exact HB.out | apply below_alloc | apply pw_below_drewN | apply below_drew1) | exact HB.out)⟩

end Go.Proofs.YtgdpknmffohhaaaDoor.Pl

/- The reference's target is the program's. -/
namespace Go.Proofs.YtgdpknmffohhaaaDoor.Pl
open Go.RowKit Go.Lib Go.Proofs.YtgdpknmffohhaaaDoorW.PrintWords Go.Proofs.YtgdpknmffohhaaaDoorW.PrintLast Go.Proofs.YtgdpknmffohhaaaDoorW.PrintMore
set_option linter.unusedVariables false
def twC_ (l : List UInt8) : List UInt8 := l.takeWhile (fun b => b != 58)
def lowb_ (b : UInt8) : UInt8 := if 65 ≤ b.toNat ∧ b.toNat ≤ 90 then b + 32 else b
theorem twC_le_ (l : List UInt8) : (twC_ l).length ≤ l.length := by
  unfold twC_
  exact (List.takeWhile_prefix _).length_le
theorem index_tw_ : ∀ l : List UInt8, Lib.index l [58] = if (twC_ l).length = l.length then -1 else ((twC_ l).length : Int)
  | [] => rfl
  | b :: l => by
    have ih := index_tw_ l
    have hle := twC_le_ l
    by_cases hb : b = 58
    · subst hb
      rw [show twC_ (58 :: l) = [] from by simp [twC_]]
      rw [if_neg (by simp)]
      rfl
    · have h1 : twC_ (b :: l) = b :: twC_ l := by unfold twC_; rw [List.takeWhile_cons, if_pos (by simpa using hb)]
      have h2 : ([58] : List UInt8).isPrefixOf (b :: l) = false := by
        simp [List.isPrefixOf, beq_eq_false_iff_ne.2 (Ne.symm hb)]
      have h3 : Lib.index (b :: l) [58] = if Lib.index l [58] == -1 then -1 else Lib.index l [58] + 1 := by
        show (if ([58] : List UInt8).isPrefixOf (b :: l) = true then 0 else _) = _
        rw [h2]
        rfl
      rw [h3, h1, ih, List.length_cons, List.length_cons]
      by_cases he : (twC_ l).length = l.length
      · rw [if_pos he]
        rw [if_pos (show ((-1 : Int) == -1) = true by decide), if_pos (by omega)]
      · rw [if_neg he]
        rw [if_neg (by intro h; rw [beq_iff_eq] at h; omega), if_neg (by omega)]
        omega
theorem cut_tw_ (l : List UInt8) : (Lib.cut l [58]).1 = twC_ l := by
  unfold Lib.cut
  rw [index_tw_]
  have hle := twC_le_ l
  by_cases he : (twC_ l).length = l.length
  · rw [if_pos he, if_neg (by decide)]
    exact ((List.takeWhile_prefix _).eq_of_length he).symm
  · rw [if_neg he, if_pos (by omega), Int.toNat_natCast]
    exact (List.prefix_iff_eq_take.1 (List.takeWhile_prefix _)).symm
theorem low_byte_ (b : UInt8) (h : b.toNat < 128) : Lib.encodeRune (low_ (b.toNat : Int)) = [lowb_ b] := by
  unfold low_ lowb_
  by_cases hc : 65 ≤ b.toNat ∧ b.toNat ≤ 90
  · rw [if_pos (by omega), if_pos hc]
    unfold Lib.encodeRune
    rw [Lib.encodeRuneZ_one (by omega) (by omega)]
    show [((b.toNat : Int) + 32).toNat.toUInt8] = [b + 32]
    rw [show ((b.toNat : Int) + 32).toNat = b.toNat + 32 by omega]
    simp
  · rw [if_neg (by omega), if_neg hc]
    unfold Lib.encodeRune
    rw [Lib.encodeRuneZ_one (by omega) (by omega)]
    show [((b.toNat : Int)).toNat.toUInt8] = [b]
    rw [Int.toNat_natCast]
    congr 1
    apply UInt8.toNat_inj.1
    simp
theorem low_far_ (b : UInt8) (t : List UInt8) (h : 128 ≤ b.toNat) : ∃ c u, Lib.encodeRune (low_ ((Lib.decodeL (b :: t)).1 : Int)) = c :: u ∧ 128 ≤ c.toNat := by
  have hr : 128 ≤ (Lib.decodeL (b :: t)).1 := by
    rw [Lib.decodeL_N]
    have k0 : ((b :: t).getD 0 0).toNat = b.toNat := rfl
    rw [k0]
    rcases Lib.decodeN_shape (b :: t).length b.toNat ((b :: t).getD 1 0).toNat ((b :: t).getD 2 0).toNat ((b :: t).getD 3 0).toNat with ⟨c, e⟩ | ⟨_, _, _, c, e⟩ | ⟨_, _, _, _, c, _, e⟩ | ⟨_, _, _, _, _, c, _, e⟩ | e
    · omega
    · rw [e]; exact c
    · rw [e]; dsimp only; omega
    · rw [e]; dsimp only; omega
    · rw [e]; decide
  have hm := Lib.decodeL_rune (b :: t)
  generalize (Lib.decodeL (b :: t)).1 = r at hr hm
  have hl : low_ (r : Int) = (r : Int) := by unfold low_; rw [if_neg (by omega)]
  rw [hl]
  unfold Lib.encodeRune
  by_cases h1 : r ≤ 2047
  · rw [Lib.encodeRuneZ_two (by omega) (by omega)]
    refine ⟨_, _, rfl, ?_⟩
    dsimp only
    rw [show (192 + (r : Int) / 64).toNat = 192 + r / 64 by omega]
    simp
    omega
  · by_cases h2 : r < 55296 ∨ (57343 < r ∧ r ≤ 65535)
    · rw [Lib.encodeRuneZ_three (by omega)]
      refine ⟨_, _, rfl, ?_⟩
      dsimp only
      rw [show (224 + (r : Int) / 4096).toNat = 224 + r / 4096 by omega]
      simp
      omega
    · by_cases h3 : 65536 ≤ r
      · rw [Lib.encodeRuneZ_four (by omega) (by omega)]
        refine ⟨_, _, rfl, ?_⟩
        dsimp only
        rw [show (240 + (r : Int) / 262144).toNat = 240 + r / 262144 by omega]
        simp
        omega
      · rw [Lib.encodeRuneZ_bad (by omega)]
        exact ⟨_, _, rfl, by decide⟩
theorem lowb_far_ (b : UInt8) (h : 128 ≤ b.toNat) : lowb_ b = b := by unfold lowb_; rw [if_neg (by omega)]
theorem mapD_word_ : ∀ (l W : List UInt8), (∀ x ∈ W, x.toNat < 128) → (Lib.mapD low_ l = W ↔ l.map lowb_ = W)
  | [], W, _ => Iff.rfl
  | b :: t, W, hW => by
    rw [Lib.mapD_step _ _ (by simp), List.map_cons]
    by_cases hb : b.toNat < 128
    · rw [Lib.decodeL_ascii b t hb]
      dsimp only
      rw [if_pos (by unfold low_; split <;> omega), low_byte_ b hb]
      show lowb_ b :: Lib.mapD low_ t = W ↔ _
      cases W with
      | nil => simp
      | cons c W =>
        have ih := mapD_word_ t W (fun x hx => hW x (List.mem_cons_of_mem _ hx))
        rw [List.cons.injEq, List.cons.injEq, ih]
    · obtain ⟨c, u, e, hc⟩ := low_far_ b t (by omega)
      rw [if_pos (by unfold low_; split <;> omega), e, lowb_far_ b (by omega)]
      cases W with
      | nil => simp
      | cons d W =>
        have hd := hW d (List.mem_cons_self ..)
        constructor
        · intro h
          rw [List.cons_append, List.cons.injEq] at h
          rw [h.1] at hc
          omega
        · intro h
          rw [List.cons.injEq] at h
          rw [h.1] at hb
          omega
def wordJ_ : List UInt8 := [106, 97, 118, 97, 115, 99, 114, 105, 112, 116]
theorem script_is_ (s : ByteArray) : script_ s = ((twC_ s.data.toList).map lowb_ == wordJ_) := by
  have h : (lowed_ s).toList = Lib.mapD low_ (twC_ s.data.toList) := by
    rw [ByteArray.toList_eq]
    unfold lowed_ head_
    simp [cut_tw_]
  unfold script_
  rw [h]
  show (Lib.mapD low_ (twC_ s.data.toList) == wordJ_) = _
  have hi := mapD_word_ (twC_ s.data.toList) wordJ_ (by decide)
  rw [Bool.eq_iff_iff, beq_iff_eq, beq_iff_eq]
  exact hi
end Go.Proofs.YtgdpknmffohhaaaDoor.Pl

/- The reference's target, its loops. -/
namespace Go.Proofs.YtgdpknmffohhaaaDoor.Pl
open Go.RowKit Go.Lib Go.Proofs.YtgdpknmffohhaaaDoorW.PrintWords Go.Proofs.YtgdpknmffohhaaaDoorW.PrintLast Go.Proofs.YtgdpknmffohhaaaDoorW.PrintMore
set_option linter.unusedVariables false
def wordS_ : ByteArray := ⟨#[106, 97, 118, 97, 115, 99, 114, 105, 112, 116]⟩
theorem wsize_ : wordS_.size = 10 := rfl
theorem bt_list_ (s : ByteArray) (i : Nat) (h : i < s.data.toList.length) : bt s (i : Int) = ((s.data.toList[i]'h).toNat : Int) := by
  have h' : i < s.size := by rw [← Array.size_eq_length_toList] at h; exact h
  rw [← bt_at s i (by rw [Int.toNat_natCast]; exact h')]
  simp only [Int.toNat_natCast, Array.getElem_toList]
  rfl
theorem jword_ (i : Nat) (h : i < 10) : bt wordS_ (i : Int) = ((wordJ_[i]'h).toNat : Int) := bt_list_ wordS_ i h
theorem cmp_loop_ (s : ByteArray) (n : Nat) (hs : s.size ≤ 70368744177664) (hn : n = (twC_ s.data.toList).length) (h10 : n = 10) : ∀ (m i : Nat), n - i = m → i ≤ n →
    Ev (fun k => quillworkref03_Target.l1 k s wordS_ (n : Int) (i : Int)) (!(((twC_ s.data.toList).drop i).map lowb_ == wordJ_.drop i)) := by
  have hle := twC_le_ s.data.toList
  have hsz : s.data.toList.length = s.size := (Lib.size_eq s).symm
  intro m
  induction m with
  | zero =>
    intro i hm hi
    refine Ev.step (f := fun _ => some _) (fun k => ?_) (Ev.now _)
    simp only [quillworkref03_Target.l1]
    rw [if_neg (by omega), List.drop_eq_nil_of_le (by omega), List.drop_eq_nil_of_le (by show 10 ≤ i; omega)]
    rfl
  | succ m ih =>
    intro i hm hi
    have e3 : wrap64 ((i : Int) + 1) = ((i + 1 : Nat) : Int) := by rw [w64s_ _ (by omega)]; omega
    have hil : i < (twC_ s.data.toList).length := by omega
    have hj : i < wordJ_.length := by show i < 10; omega
    have hg : (twC_ s.data.toList)[i]'hil = s.data.toList[i]'(by omega) := (List.takeWhile_prefix _).getElem hil
    have hb := bt_list_ s i (by omega)
    have hw := jword_ i (by omega)
    rw [← hg] at hb
    have hd : (((twC_ s.data.toList).drop i).map lowb_ == wordJ_.drop i) = ((lowb_ ((twC_ s.data.toList)[i]'hil) == wordJ_[i]'hj) && (((twC_ s.data.toList).drop (i + 1)).map lowb_ == wordJ_.drop (i + 1))) := by
      rw [List.drop_eq_getElem_cons hil, List.drop_eq_getElem_cons hj, List.map_cons]
      rfl
    rw [hd]
    have ihh := ih (i + 1) (by omega) (by omega)
    generalize (twC_ s.data.toList)[i]'hil = b at hb ⊢
    generalize hc : wordJ_[i]'hj = c at hw ⊢
    have hb256 := b.toNat_lt
    have hlow : ((lowb_ b).toNat : Int) = if 65 ≤ b.toNat ∧ b.toNat ≤ 90 then ((b.toNat : Int) + 32) % 256 else (b.toNat : Int) := by
      unfold lowb_
      split
      · rw [UInt8.toNat_add]
        simp
      · rfl
    have heq : (lowb_ b == c) = decide (((lowb_ b).toNat : Int) = (c.toNat : Int)) := by
      rw [Bool.eq_iff_iff, beq_iff_eq, decide_eq_true_eq, ← UInt8.toNat_inj]
      omega
    rw [heq, hlow]
    refine Ev.step (f := fun k => quillworkref03_Target.j4 k s wordS_ (n : Int) (i : Int) (b.toNat : Int) (decide (65 ≤ b.toNat ∧ b.toNat ≤ 90))) (fun k => ?_) ?_
    · simp only [quillworkref03_Target.l1]
      rw [if_pos (by omega), if_pos (by omega), if_pos (by omega), hb]
      by_cases h65 : 65 ≤ b.toNat
      · rw [if_pos (by omega)]
        congr 1
        rw [decide_eq_decide]
        omega
      · rw [if_neg (by omega), decide_eq_false (by omega)]
    · by_cases hr : 65 ≤ b.toNat ∧ b.toNat ≤ 90
      · rw [if_pos hr, decide_eq_true hr]
        by_cases he : ((b.toNat : Int) + 32) % 256 = (c.toNat : Int)
        · rw [decide_eq_true he, Bool.true_and]
          refine Ev.step (fun k => ?_) ihh
          simp only [quillworkref03_Target.j4]
          rw [if_pos trivial, if_pos (by omega), if_pos (show (i : Int) < (wordS_.size : Int) by rw [wsize_]; omega), hw, if_pos he, e3]
        · rw [decide_eq_false he, Bool.false_and]
          refine Ev.step (f := fun _ => some _) (fun k => ?_) (Ev.now _)
          simp only [quillworkref03_Target.j4]
          rw [if_pos trivial, if_pos (by omega), if_pos (show (i : Int) < (wordS_.size : Int) by rw [wsize_]; omega), hw, if_neg he]
          rfl
      · rw [if_neg hr, decide_eq_false hr]
        by_cases he : (b.toNat : Int) = (c.toNat : Int)
        · rw [decide_eq_true he, Bool.true_and]
          refine Ev.step (fun k => ?_) ihh
          simp only [quillworkref03_Target.j4]
          rw [if_neg (by decide), if_pos (by omega), if_pos (show (i : Int) < (wordS_.size : Int) by rw [wsize_]; omega), hw, if_pos he, e3]
        · rw [decide_eq_false he, Bool.false_and]
          refine Ev.step (f := fun _ => some _) (fun k => ?_) (Ev.now _)
          simp only [quillworkref03_Target.j4]
          rw [if_neg (by decide), if_pos (by omega), if_pos (show (i : Int) < (wordS_.size : Int) by rw [wsize_]; omega), hw, if_neg he]
          rfl
theorem end_loop_ (s : ByteArray) (n : Nat) (hs : s.size ≤ 70368744177664) (hn : n = (twC_ s.data.toList).length) {R : Bool} (hj : Ev (fun k => quillworkref03_Target.j2 k s wordS_ (n : Int)) R) : ∀ (m i : Nat), n - i = m → i ≤ n → Ev (fun k => quillworkref03_Target.l0 k s wordS_ (i : Int)) R := by
  have hle := twC_le_ s.data.toList
  have hsz : s.data.toList.length = s.size := (Lib.size_eq s).symm
  intro m
  induction m with
  | zero =>
    intro i hm hi
    obtain rfl : i = n := by omega
    refine Ev.step (fun k => ?_) hj
    simp only [quillworkref03_Target.l0]
    by_cases he : i < s.size
    · have hb := bt_list_ s i (by omega)
      have h58 : s.data.toList[i]'(by omega) = 58 := by
        have h1 := List.head_dropWhile_not (p := fun b : UInt8 => b != 58) (l := s.data.toList)
        have h2 : s.data.toList.dropWhile (fun b => b != 58) = s.data.toList.drop i := by
          have := List.takeWhile_append_dropWhile (p := fun b : UInt8 => b != 58) (l := s.data.toList)
          have h3 : s.data.toList = twC_ s.data.toList ++ s.data.toList.dropWhile (fun b => b != 58) := this.symm
          conv => rhs; rw [h3]
          rw [hn, List.drop_left]
        rw [h2] at h1
        have h4 := h1 (by intro e; have := congrArg List.length e; rw [List.length_drop] at this; simp at this; omega)
        rw [List.head_drop] at h4
        simpa using h4
      rw [if_pos (by omega), if_pos (by omega), if_pos (by rw [hb, h58]; rfl)]
    · rw [if_neg (by omega)]
  | succ m ih =>
    intro i hm hi
    have e3 : wrap64 ((i : Int) + 1) = ((i + 1 : Nat) : Int) := by rw [w64s_ _ (by omega)]; omega
    have hil : i < (twC_ s.data.toList).length := by omega
    have hg : (twC_ s.data.toList)[i]'hil = s.data.toList[i]'(by omega) := (List.takeWhile_prefix _).getElem hil
    have hb := bt_list_ s i (by omega)
    rw [← hg] at hb
    have hne : (twC_ s.data.toList)[i]'hil ≠ 58 := by
      have := List.all_eq_true.1 (List.all_takeWhile (p := fun b : UInt8 => b != 58) (l := s.data.toList)) _ (List.getElem_mem hil)
      simpa using this
    refine Ev.step (fun k => ?_) (ih (i + 1) (by omega) (by omega))
    simp only [quillworkref03_Target.l0]
    rw [if_pos (by omega), if_pos (by omega), if_neg (by rw [hb]; intro e; apply hne; apply UInt8.toNat_inj.1; show _ = 58; omega), e3]
theorem ref_script_ (s : ByteArray) (hs : s.size ≤ 70368744177664) : Ev (fun k => quillworkref03_Target.j0 k s false) (!script_ s) := by
  refine Ev.step (fun k => ?_) (end_loop_ s _ hs rfl (R := !script_ s) ?_ _ 0 rfl (Nat.zero_le _))
  · simp only [quillworkref03_Target.j0]
    rw [if_neg (by decide)]
    rfl
  · rw [script_is_]
    by_cases h : (twC_ s.data.toList).length = 10
    · refine Ev.step (fun k => ?_) (cmp_loop_ s _ hs rfl h _ 0 rfl (Nat.zero_le _))
      simp only [quillworkref03_Target.j2]
      rw [if_pos (show ((twC_ s.data.toList).length : Int) = (wordS_.size : Int) by rw [wsize_]; omega)]
      rfl
    · have hb : ((twC_ s.data.toList).map lowb_ == wordJ_) = false := beq_eq_false_iff_ne.2 (fun e => h (by have := congrArg List.length e; rw [List.length_map] at this; exact this))
      rw [hb]
      refine Ev.step (f := fun _ => some _) (fun k => ?_) (Ev.now _)
      simp only [quillworkref03_Target.j2]
      rw [if_neg (show ¬ ((twC_ s.data.toList).length : Int) = (wordS_.size : Int) by rw [wsize_]; omega)]
      rfl
end Go.Proofs.YtgdpknmffohhaaaDoor.Pl

namespace Go.Proofs.YtgdpknmffohhaaaDoor.Pl
open Go.RowKit Go.Proofs.YtgdpknmffohhaaaDoorW.PrintWords Go.Proofs.YtgdpknmffohhaaaDoorW.PrintLast Go.Proofs.YtgdpknmffohhaaaDoorW.PrintMore
attribute [local go_sem] max2_int min2_int max_two min_two max_three min_three max_four min_four   -- for this text's walks alone
set_option linter.unusedVariables false
set_option linter.unusedSimpArgs false

/-! ### quillworkref05_May: function 85 -/
def quillworkref05_May.l0 : Nat → List (S71) → Int → Option (Bool)
  | 0, _, _ => none
  | k + 1, x0, x3 => if x3 < (x0.length : Int) then (if 0 ≤ x3 then (if ((rd_T71 x0 x3).f0) = 10 then (if ((rd_T71 x0 x3).f1) < 0 then (some false) else (if ((rd_T71 x0 x3).f1) > 15 then (some false) else ((quillworkref05_Link.f k ((rd_T71 x0 x3).f2)).bind fun t261 => (if t261 = true then (quillworkref05_May.l0 k x0 (wrap64 (x3 + 1))) else (some false))))) else ((quillworkref01_May.f k ((rd_T71 x0 x3).f0)).bind fun t262 => (if t262 = true then (if ((rd_T71 x0 x3).f1) < 0 then (some false) else (if ((rd_T71 x0 x3).f1) > 15 then (some false) else ((quillworkref05_Link.f k ((rd_T71 x0 x3).f2)).bind fun t263 => (if t263 = true then (quillworkref05_May.l0 k x0 (wrap64 (x3 + 1))) else (some false))))) else (some false)))) else (none)) else (some true)
def quillworkref05_May.f (k : Nat) (l0 : List (S71)) : Option (Bool) := quillworkref05_May.l0 k l0 0
set_option maxHeartbeats 8000000 in
set_option maxRecDepth 100000 in
theorem quillworkref05_May.calls (k : Nat) (A0 : Option Addr) (c0 : Nat) (l0 : List (S71)) (r : Bool) (w : World) (hr0 : Kd.C k71 w A0 l0.length l0) (hc0 : l0.length ≤ c0) (h : quillworkref05_May.f k l0 = some r) :
    Calls Tryd.prog 85 #[.slice A0 l0.length c0] w fun e w' => e = .returned (.bool r) ∧ Below w.heap.size w w' := by
  have hu71 := Tryd.underlying71
  have HR0 := Aside0.mk hr0
  have HC0 := Aside0.mk hc0
  clear hr0 hc0
  have HB := Aside0.mk (Below.refl w.heap.size w)
  have H : (quillworkref05_May.l0 k l0 0) = some r := h
  clear h
  have H' := Aside0.mk H
  clear H
  go_enter Tryd.func85, Tryd.ntmps85
  go_wp2
  go_loopg [3] k (fun kq v3 w' => ∃ (x3_1 : Int), v3 = .int .i64 x3_1 ∧ Aside0 (quillworkref05_May.l0 kq l0 x3_1 = some r) ∧ Aside0 (kq ≤ k) ∧ Aside0 (Below w.heap.size w w'))
  case atStart => exact ⟨(0), (by first | rfl | (simp; done) | (simp [*]; done)), H', ⟨Nat.le_refl _⟩, ⟨by repeat (first | (with_reducible first | exact HB.out | apply below_alloc | apply pw_below_drewN | apply below_drew1) | exact HB.out)⟩⟩
  case round =>
    clear H'
    obtain ⟨x3_1, rfl, HA, HK1, HB⟩ := hrel
    cases gk with
    | zero => exact absurd HA.out (by simp [quillworkref05_May.l0])
    | succ k1 =>
      have H := HA.out
      clear HA
      simp only [quillworkref05_May.l0] at H
      by_cases c2 : x3_1 < (l0.length : Int)
      · rw [if_pos c2] at H
        have c2b0 : decide (x3_1 < (l0.length : Int)) = true := decide_eq_true c2
        clear c2
        by_cases c3 : 0 ≤ x3_1
        · rw [if_pos c3] at H
          have c3b0 : decide (0 ≤ x3_1) = true := decide_eq_true c3
          clear c3
          by_cases c4 : ((rd_T71 l0 x3_1).f0) = 10
          · rw [if_pos c4] at H
            have c4b0 : (((rd_T71 l0 x3_1).f0) == 10) = true := beq_iff_eq.mpr c4
            have c4b1 : (((rd_T71 l0 x3_1).f0) != 10) = false := bne_eq_false_iff_eq.mpr c4
            clear c4
            by_cases c5 : ((rd_T71 l0 x3_1).f1) < 0
            · rw [if_pos c5] at H
              have c5b0 : decide (((rd_T71 l0 x3_1).f1) < 0) = true := decide_eq_true c5
              clear c5
              obtain rfl := Option.some.inj H
              have p259 : 0 ≤ (x3_1 : Int) := of_decide_eq_true (by first | (with_reducible assumption) | assumption)
              have q259 : x3_1 < (l0.length : Int) := of_decide_eq_true (by first | (with_reducible assumption) | assumption)
              obtain ⟨ad259, e259, hx259_0, hx259_1, hx259_2⟩ := at_T71 HR0.out x3_1 p259 q259
              cases e259
              replace hx259_0 := (HB.out.cell (World.block_lt_of_cell? w _ hx259_0)).trans hx259_0
              replace hx259_1 := (HB.out.cell (World.block_lt_of_cell? w _ hx259_1)).trans hx259_1
              replace hx259_2 := (HB.out.cell (World.block_lt_of_cell? w _ hx259_2)).trans hx259_2
              replace p259 := eq_true p259
              replace q259 := eq_true q259
              go_wp2_with (first | ((with_reducible refine gate_dst (N := 4) rfl ?_); refine box_event ?hg (N := 4) ?hd (cs := #[.int .i32 0, .int .i64 0, .string (⟨#[]⟩ : ByteArray)]) (t := 71) ?hr ?_; (case hd => rfl); (case hg => rfl); (case hr => first | (go_simp; done) | (go_simp; rfl)); intro gb260 hg w6 hbox hb; have n0_ := Aside0.mk (below_step (by repeat (first | (with_reducible first | exact HB.out | apply below_alloc | apply pw_below_drewN | apply below_drew1) | exact HB.out)) hb); have n1_ := Aside0.mk (hbox); have n2_ := Aside0.mk ((by rw [hg]; exact (below_size (by repeat (first | (with_reducible first | exact HB.out | apply below_alloc | apply pw_below_drewN | apply below_drew1) | exact HB.out))) : w.heap.size ≤ gb260)); have n3_ := Aside0.mk ((by rw [hg]; exact (below_size (by repeat (first | (with_reducible first | exact HB.out | apply below_alloc | apply pw_below_drewN | apply below_drew1) | exact HB.out))) : w.heap.size ≤ gb260)); clear HB; have HB := n0_; have BK260 := n1_; have GW260 := n2_; have GE260 := n3_; clear n0_ n1_ n2_ n3_; clear hb hbox hg; have hcz7_0 : w6.cell? ⟨gb260, 0, none⟩ = some (.int .i32 0) := (blk_cell BK260.out 0).trans rfl; have hcz7_1 : w6.cell? ⟨gb260, 1, none⟩ = some (.int .i64 0) := (blk_cell BK260.out 1).trans rfl; have hcz7_2 : w6.cell? ⟨gb260, 2, none⟩ = some (.string (⟨#[]⟩ : ByteArray)) := (blk_cell BK260.out 2).trans rfl; have hfz7_0 := blk_frozen BK260.out 0; have hfz7_1 := blk_frozen BK260.out 1; have hfz7_2 := blk_frozen BK260.out 2))
              go_ret
              exact ⟨by first | rfl | (simp [errW_none, errW_some] <;> rfl) | (simp [*, errW_none, errW_some] <;> rfl), by repeat (first | (with_reducible first | exact HB.out | apply below_alloc | apply pw_below_drewN | apply below_drew1 | refine below_set ?_ GE260.out) | exact HB.out)⟩
            · rw [if_neg c5] at H
              have c5b0 : decide (((rd_T71 l0 x3_1).f1) < 0) = false := decide_eq_false c5
              clear c5
              by_cases c8 : ((rd_T71 l0 x3_1).f1) > 15
              · rw [if_pos c8] at H
                have c8b0 : decide (15 < ((rd_T71 l0 x3_1).f1)) = true := decide_eq_true c8
                clear c8
                obtain rfl := Option.some.inj H
                have p259 : 0 ≤ (x3_1 : Int) := of_decide_eq_true (by first | (with_reducible assumption) | assumption)
                have q259 : x3_1 < (l0.length : Int) := of_decide_eq_true (by first | (with_reducible assumption) | assumption)
                obtain ⟨ad259, e259, hx259_0, hx259_1, hx259_2⟩ := at_T71 HR0.out x3_1 p259 q259
                cases e259
                replace hx259_0 := (HB.out.cell (World.block_lt_of_cell? w _ hx259_0)).trans hx259_0
                replace hx259_1 := (HB.out.cell (World.block_lt_of_cell? w _ hx259_1)).trans hx259_1
                replace hx259_2 := (HB.out.cell (World.block_lt_of_cell? w _ hx259_2)).trans hx259_2
                replace p259 := eq_true p259
                replace q259 := eq_true q259
                go_wp2_with (first | ((with_reducible refine gate_dst (N := 4) rfl ?_); refine box_event ?hg (N := 4) ?hd (cs := #[.int .i32 0, .int .i64 0, .string (⟨#[]⟩ : ByteArray)]) (t := 71) ?hr ?_; (case hd => rfl); (case hg => rfl); (case hr => first | (go_simp; done) | (go_simp; rfl)); intro gb260 hg w9 hbox hb; have n0_ := Aside0.mk (below_step (by repeat (first | (with_reducible first | exact HB.out | apply below_alloc | apply pw_below_drewN | apply below_drew1) | exact HB.out)) hb); have n1_ := Aside0.mk (hbox); have n2_ := Aside0.mk ((by rw [hg]; exact (below_size (by repeat (first | (with_reducible first | exact HB.out | apply below_alloc | apply pw_below_drewN | apply below_drew1) | exact HB.out))) : w.heap.size ≤ gb260)); have n3_ := Aside0.mk ((by rw [hg]; exact (below_size (by repeat (first | (with_reducible first | exact HB.out | apply below_alloc | apply pw_below_drewN | apply below_drew1) | exact HB.out))) : w.heap.size ≤ gb260)); clear HB; have HB := n0_; have BK260 := n1_; have GW260 := n2_; have GE260 := n3_; clear n0_ n1_ n2_ n3_; clear hb hbox hg; have hcz10_0 : w9.cell? ⟨gb260, 0, none⟩ = some (.int .i32 0) := (blk_cell BK260.out 0).trans rfl; have hcz10_1 : w9.cell? ⟨gb260, 1, none⟩ = some (.int .i64 0) := (blk_cell BK260.out 1).trans rfl; have hcz10_2 : w9.cell? ⟨gb260, 2, none⟩ = some (.string (⟨#[]⟩ : ByteArray)) := (blk_cell BK260.out 2).trans rfl; have hfz10_0 := blk_frozen BK260.out 0; have hfz10_1 := blk_frozen BK260.out 1; have hfz10_2 := blk_frozen BK260.out 2))
                go_ret
                exact ⟨by first | rfl | (simp [errW_none, errW_some] <;> rfl) | (simp [*, errW_none, errW_some] <;> rfl), by repeat (first | (with_reducible first | exact HB.out | apply below_alloc | apply pw_below_drewN | apply below_drew1 | refine below_set ?_ GE260.out) | exact HB.out)⟩
              · rw [if_neg c8] at H
                have c8b0 : decide (15 < ((rd_T71 l0 x3_1).f1)) = false := decide_eq_false c8
                clear c8
                replace H := Option.bind_eq_some_iff.mp H
                obtain ⟨t261, A110, H⟩ := H
                replace H : (if t261 = true then (quillworkref05_May.l0 k1 l0 (wrap64 (x3_1 + 1))) else (some false)) = some r := H
                have A11 := Aside0.mk A110
                clear A110
                by_cases c12 : t261 = true
                · subst c12
                  have H1 : (quillworkref05_May.l0 k1 l0 (wrap64 (x3_1 + 1))) = some r := by rw [if_pos rfl] at H; exact H
                  clear H
                  have H := H1
                  clear H1
                  have H' := Aside0.mk H
                  clear H
                  have p259 : 0 ≤ (x3_1 : Int) := of_decide_eq_true (by first | (with_reducible assumption) | assumption)
                  have q259 : x3_1 < (l0.length : Int) := of_decide_eq_true (by first | (with_reducible assumption) | assumption)
                  obtain ⟨ad259, e259, hx259_0, hx259_1, hx259_2⟩ := at_T71 HR0.out x3_1 p259 q259
                  cases e259
                  replace hx259_0 := (HB.out.cell (World.block_lt_of_cell? w _ hx259_0)).trans hx259_0
                  replace hx259_1 := (HB.out.cell (World.block_lt_of_cell? w _ hx259_1)).trans hx259_1
                  replace hx259_2 := (HB.out.cell (World.block_lt_of_cell? w _ hx259_2)).trans hx259_2
                  replace p259 := eq_true p259
                  replace q259 := eq_true q259
                  go_wp2_with (first | ((with_reducible refine gate_dst (N := 4) rfl ?_); refine box_event ?hg (N := 4) ?hd (cs := #[.int .i32 0, .int .i64 0, .string (⟨#[]⟩ : ByteArray)]) (t := 71) ?hr ?_; (case hd => rfl); (case hg => rfl); (case hr => first | (go_simp; done) | (go_simp; rfl)); intro gb260 hg w13 hbox hb; have n0_ := Aside0.mk (below_step (by repeat (first | (with_reducible first | exact HB.out | apply below_alloc | apply pw_below_drewN | apply below_drew1) | exact HB.out)) hb); have n1_ := Aside0.mk (hbox); have n2_ := Aside0.mk ((by rw [hg]; exact (below_size (by repeat (first | (with_reducible first | exact HB.out | apply below_alloc | apply pw_below_drewN | apply below_drew1) | exact HB.out))) : w.heap.size ≤ gb260)); have n3_ := Aside0.mk ((by rw [hg]; exact (below_size (by repeat (first | (with_reducible first | exact HB.out | apply below_alloc | apply pw_below_drewN | apply below_drew1) | exact HB.out))) : w.heap.size ≤ gb260)); clear HB; have HB := n0_; have BK260 := n1_; have GW260 := n2_; have GE260 := n3_; clear n0_ n1_ n2_ n3_; clear hb hbox hg; have hcz14_0 : w13.cell? ⟨gb260, 0, none⟩ = some (.int .i32 0) := (blk_cell BK260.out 0).trans rfl; have hcz14_1 : w13.cell? ⟨gb260, 1, none⟩ = some (.int .i64 0) := (blk_cell BK260.out 1).trans rfl; have hcz14_2 : w13.cell? ⟨gb260, 2, none⟩ = some (.string (⟨#[]⟩ : ByteArray)) := (blk_cell BK260.out 2).trans rfl; have hfz14_0 := blk_frozen BK260.out 0; have hfz14_1 := blk_frozen BK260.out 1; have hfz14_2 := blk_frozen BK260.out 2) | (go_at_call 107; (with_reducible refine (quillworkref05_Link.calls k1 ((rd_T71 l0 x3_1).f2) true _ A11.out).mono ?_); rintro e w15 ⟨rfl, hb⟩; have n0_ := Aside0.mk (blk_below (g := gb260) (o := .cells #[.int .i32 ((rd_T71 l0 x3_1).f0), .int .i64 ((rd_T71 l0 x3_1).f1), .string ((rd_T71 l0 x3_1).f2)] 71 (0, 0)) (by (with_reducible repeat (first | refine blk_drewN ?_ _ | refine blk_drew ?_ | refine blk_alloc ?_ _)); refine blk_put (cs := #[.int .i32 ((rd_T71 l0 x3_1).f0), .int .i64 ((rd_T71 l0 x3_1).f1), .string (⟨#[]⟩ : ByteArray)]) ?_ 2 _ rfl; (with_reducible repeat (first | refine blk_drewN ?_ _ | refine blk_drew ?_ | refine blk_alloc ?_ _)); refine blk_put (cs := #[.int .i32 ((rd_T71 l0 x3_1).f0), .int .i64 0, .string (⟨#[]⟩ : ByteArray)]) ?_ 1 _ rfl; (with_reducible repeat (first | refine blk_drewN ?_ _ | refine blk_drew ?_ | refine blk_alloc ?_ _)); refine blk_put (cs := #[.int .i32 0, .int .i64 0, .string (⟨#[]⟩ : ByteArray)]) ?_ 0 _ rfl; (with_reducible repeat (first | refine blk_drewN ?_ _ | refine blk_drew ?_ | refine blk_alloc ?_ _)); exact BK260.out) hb); have n1_ := Aside0.mk (below_step (by repeat (first | (with_reducible first | exact HB.out | apply below_alloc | apply pw_below_drewN | apply below_drew1 | refine below_set ?_ GE260.out) | exact HB.out)) hb); clear BK260; clear HB; have BK260 := n0_; have HB := n1_; clear n0_ n1_; (try clear hb); (try clear hb2); (try clear hk); (try clear hi)))
                  go_roundg k1
                  case measure => have := HK1.out; omega
                  case rel => exact ⟨(wrap64 (x3_1 + 1)), (by first | rfl | (simp; done) | (simp [*]; done)), H', ⟨by have := HK1.out; omega⟩, ⟨by repeat (first | (with_reducible first | exact HB.out | apply below_alloc | apply pw_below_drewN | apply below_drew1 | refine below_set ?_ GE260.out) | exact HB.out)⟩⟩
                · replace c12 := Bool.eq_false_iff.mpr c12
                  subst c12
                  have H1 : (some false) = some r := by rw [if_neg (show ¬ (false = true) by decide)] at H; exact H
                  clear H
                  have H := H1
                  clear H1
                  obtain rfl := Option.some.inj H
                  have p259 : 0 ≤ (x3_1 : Int) := of_decide_eq_true (by first | (with_reducible assumption) | assumption)
                  have q259 : x3_1 < (l0.length : Int) := of_decide_eq_true (by first | (with_reducible assumption) | assumption)
                  obtain ⟨ad259, e259, hx259_0, hx259_1, hx259_2⟩ := at_T71 HR0.out x3_1 p259 q259
                  cases e259
                  replace hx259_0 := (HB.out.cell (World.block_lt_of_cell? w _ hx259_0)).trans hx259_0
                  replace hx259_1 := (HB.out.cell (World.block_lt_of_cell? w _ hx259_1)).trans hx259_1
                  replace hx259_2 := (HB.out.cell (World.block_lt_of_cell? w _ hx259_2)).trans hx259_2
                  replace p259 := eq_true p259
                  replace q259 := eq_true q259
                  go_wp2_with (first | ((with_reducible refine gate_dst (N := 4) rfl ?_); refine box_event ?hg (N := 4) ?hd (cs := #[.int .i32 0, .int .i64 0, .string (⟨#[]⟩ : ByteArray)]) (t := 71) ?hr ?_; (case hd => rfl); (case hg => rfl); (case hr => first | (go_simp; done) | (go_simp; rfl)); intro gb260 hg w16 hbox hb; have n0_ := Aside0.mk (below_step (by repeat (first | (with_reducible first | exact HB.out | apply below_alloc | apply pw_below_drewN | apply below_drew1) | exact HB.out)) hb); have n1_ := Aside0.mk (hbox); have n2_ := Aside0.mk ((by rw [hg]; exact (below_size (by repeat (first | (with_reducible first | exact HB.out | apply below_alloc | apply pw_below_drewN | apply below_drew1) | exact HB.out))) : w.heap.size ≤ gb260)); have n3_ := Aside0.mk ((by rw [hg]; exact (below_size (by repeat (first | (with_reducible first | exact HB.out | apply below_alloc | apply pw_below_drewN | apply below_drew1) | exact HB.out))) : w.heap.size ≤ gb260)); clear HB; have HB := n0_; have BK260 := n1_; have GW260 := n2_; have GE260 := n3_; clear n0_ n1_ n2_ n3_; clear hb hbox hg; have hcz17_0 : w16.cell? ⟨gb260, 0, none⟩ = some (.int .i32 0) := (blk_cell BK260.out 0).trans rfl; have hcz17_1 : w16.cell? ⟨gb260, 1, none⟩ = some (.int .i64 0) := (blk_cell BK260.out 1).trans rfl; have hcz17_2 : w16.cell? ⟨gb260, 2, none⟩ = some (.string (⟨#[]⟩ : ByteArray)) := (blk_cell BK260.out 2).trans rfl; have hfz17_0 := blk_frozen BK260.out 0; have hfz17_1 := blk_frozen BK260.out 1; have hfz17_2 := blk_frozen BK260.out 2) | (go_at_call 107; (with_reducible refine (quillworkref05_Link.calls k1 ((rd_T71 l0 x3_1).f2) false _ A11.out).mono ?_); rintro e w18 ⟨rfl, hb⟩; have n0_ := Aside0.mk (blk_below (g := gb260) (o := .cells #[.int .i32 ((rd_T71 l0 x3_1).f0), .int .i64 ((rd_T71 l0 x3_1).f1), .string ((rd_T71 l0 x3_1).f2)] 71 (0, 0)) (by (with_reducible repeat (first | refine blk_drewN ?_ _ | refine blk_drew ?_ | refine blk_alloc ?_ _)); refine blk_put (cs := #[.int .i32 ((rd_T71 l0 x3_1).f0), .int .i64 ((rd_T71 l0 x3_1).f1), .string (⟨#[]⟩ : ByteArray)]) ?_ 2 _ rfl; (with_reducible repeat (first | refine blk_drewN ?_ _ | refine blk_drew ?_ | refine blk_alloc ?_ _)); refine blk_put (cs := #[.int .i32 ((rd_T71 l0 x3_1).f0), .int .i64 0, .string (⟨#[]⟩ : ByteArray)]) ?_ 1 _ rfl; (with_reducible repeat (first | refine blk_drewN ?_ _ | refine blk_drew ?_ | refine blk_alloc ?_ _)); refine blk_put (cs := #[.int .i32 0, .int .i64 0, .string (⟨#[]⟩ : ByteArray)]) ?_ 0 _ rfl; (with_reducible repeat (first | refine blk_drewN ?_ _ | refine blk_drew ?_ | refine blk_alloc ?_ _)); exact BK260.out) hb); have n1_ := Aside0.mk (below_step (by repeat (first | (with_reducible first | exact HB.out | apply below_alloc | apply pw_below_drewN | apply below_drew1 | refine below_set ?_ GE260.out) | exact HB.out)) hb); clear BK260; clear HB; have BK260 := n0_; have HB := n1_; clear n0_ n1_; (try clear hb); (try clear hb2); (try clear hk); (try clear hi)))
                  go_ret
                  exact ⟨by first | rfl | (simp [errW_none, errW_some] <;> rfl) | (simp [*, errW_none, errW_some] <;> rfl), by repeat (first | (with_reducible first | exact HB.out | apply below_alloc | apply pw_below_drewN | apply below_drew1 | refine below_set ?_ GE260.out) | exact HB.out)⟩
          · rw [if_neg c4] at H
            have c4b0 : (((rd_T71 l0 x3_1).f0) == 10) = false := beq_eq_false_iff_ne.mpr c4
            have c4b1 : (((rd_T71 l0 x3_1).f0) != 10) = true := bne_iff_ne.mpr c4
            replace H := Option.bind_eq_some_iff.mp H
            obtain ⟨t262, A190, H⟩ := H
            replace H : (if t262 = true then (if ((rd_T71 l0 x3_1).f1) < 0 then (some false) else (if ((rd_T71 l0 x3_1).f1) > 15 then (some false) else ((quillworkref05_Link.f k1 ((rd_T71 l0 x3_1).f2)).bind fun t263 => (if t263 = true then (quillworkref05_May.l0 k1 l0 (wrap64 (x3_1 + 1))) else (some false))))) else (some false)) = some r := H
            have A19 := Aside0.mk A190
            clear A190
            by_cases c20 : t262 = true
            · subst c20
              have H1 : (if ((rd_T71 l0 x3_1).f1) < 0 then (some false) else (if ((rd_T71 l0 x3_1).f1) > 15 then (some false) else ((quillworkref05_Link.f k1 ((rd_T71 l0 x3_1).f2)).bind fun t263 => (if t263 = true then (quillworkref05_May.l0 k1 l0 (wrap64 (x3_1 + 1))) else (some false))))) = some r := by rw [if_pos rfl] at H; exact H
              clear H
              have H := H1
              clear H1
              by_cases c21 : ((rd_T71 l0 x3_1).f1) < 0
              · rw [if_pos c21] at H
                have c21b0 : decide (((rd_T71 l0 x3_1).f1) < 0) = true := decide_eq_true c21
                clear c21
                obtain rfl := Option.some.inj H
                have p259 : 0 ≤ (x3_1 : Int) := of_decide_eq_true (by first | (with_reducible assumption) | assumption)
                have q259 : x3_1 < (l0.length : Int) := of_decide_eq_true (by first | (with_reducible assumption) | assumption)
                obtain ⟨ad259, e259, hx259_0, hx259_1, hx259_2⟩ := at_T71 HR0.out x3_1 p259 q259
                cases e259
                replace hx259_0 := (HB.out.cell (World.block_lt_of_cell? w _ hx259_0)).trans hx259_0
                replace hx259_1 := (HB.out.cell (World.block_lt_of_cell? w _ hx259_1)).trans hx259_1
                replace hx259_2 := (HB.out.cell (World.block_lt_of_cell? w _ hx259_2)).trans hx259_2
                replace p259 := eq_true p259
                replace q259 := eq_true q259
                go_wp2_with (first | ((with_reducible refine gate_dst (N := 4) rfl ?_); refine box_event ?hg (N := 4) ?hd (cs := #[.int .i32 0, .int .i64 0, .string (⟨#[]⟩ : ByteArray)]) (t := 71) ?hr ?_; (case hd => rfl); (case hg => rfl); (case hr => first | (go_simp; done) | (go_simp; rfl)); intro gb260 hg w22 hbox hb; have n0_ := Aside0.mk (below_step (by repeat (first | (with_reducible first | exact HB.out | apply below_alloc | apply pw_below_drewN | apply below_drew1) | exact HB.out)) hb); have n1_ := Aside0.mk (hbox); have n2_ := Aside0.mk ((by rw [hg]; exact (below_size (by repeat (first | (with_reducible first | exact HB.out | apply below_alloc | apply pw_below_drewN | apply below_drew1) | exact HB.out))) : w.heap.size ≤ gb260)); have n3_ := Aside0.mk ((by rw [hg]; exact (below_size (by repeat (first | (with_reducible first | exact HB.out | apply below_alloc | apply pw_below_drewN | apply below_drew1) | exact HB.out))) : w.heap.size ≤ gb260)); clear HB; have HB := n0_; have BK260 := n1_; have GW260 := n2_; have GE260 := n3_; clear n0_ n1_ n2_ n3_; clear hb hbox hg; have hcz23_0 : w22.cell? ⟨gb260, 0, none⟩ = some (.int .i32 0) := (blk_cell BK260.out 0).trans rfl; have hcz23_1 : w22.cell? ⟨gb260, 1, none⟩ = some (.int .i64 0) := (blk_cell BK260.out 1).trans rfl; have hcz23_2 : w22.cell? ⟨gb260, 2, none⟩ = some (.string (⟨#[]⟩ : ByteArray)) := (blk_cell BK260.out 2).trans rfl; have hfz23_0 := blk_frozen BK260.out 0; have hfz23_1 := blk_frozen BK260.out 1; have hfz23_2 := blk_frozen BK260.out 2) | (go_at_call 124; (with_reducible refine (quillworkref01_May.calls k1 ((rd_T71 l0 x3_1).f0) true _ A19.out).mono ?_); rintro e w' ⟨rfl, ⟨nd, rfl⟩⟩))
                go_ret
                exact ⟨by first | rfl | (simp [errW_none, errW_some] <;> rfl) | (simp [*, errW_none, errW_some] <;> rfl), by repeat (first | (with_reducible first | exact HB.out | apply below_alloc | apply pw_below_drewN | apply below_drew1 | refine below_set ?_ GE260.out) | exact HB.out)⟩
              · rw [if_neg c21] at H
                have c21b0 : decide (((rd_T71 l0 x3_1).f1) < 0) = false := decide_eq_false c21
                clear c21
                by_cases c24 : ((rd_T71 l0 x3_1).f1) > 15
                · rw [if_pos c24] at H
                  have c24b0 : decide (15 < ((rd_T71 l0 x3_1).f1)) = true := decide_eq_true c24
                  clear c24
                  obtain rfl := Option.some.inj H
                  have p259 : 0 ≤ (x3_1 : Int) := of_decide_eq_true (by first | (with_reducible assumption) | assumption)
                  have q259 : x3_1 < (l0.length : Int) := of_decide_eq_true (by first | (with_reducible assumption) | assumption)
                  obtain ⟨ad259, e259, hx259_0, hx259_1, hx259_2⟩ := at_T71 HR0.out x3_1 p259 q259
                  cases e259
                  replace hx259_0 := (HB.out.cell (World.block_lt_of_cell? w _ hx259_0)).trans hx259_0
                  replace hx259_1 := (HB.out.cell (World.block_lt_of_cell? w _ hx259_1)).trans hx259_1
                  replace hx259_2 := (HB.out.cell (World.block_lt_of_cell? w _ hx259_2)).trans hx259_2
                  replace p259 := eq_true p259
                  replace q259 := eq_true q259
                  go_wp2_with (first | ((with_reducible refine gate_dst (N := 4) rfl ?_); refine box_event ?hg (N := 4) ?hd (cs := #[.int .i32 0, .int .i64 0, .string (⟨#[]⟩ : ByteArray)]) (t := 71) ?hr ?_; (case hd => rfl); (case hg => rfl); (case hr => first | (go_simp; done) | (go_simp; rfl)); intro gb260 hg w25 hbox hb; have n0_ := Aside0.mk (below_step (by repeat (first | (with_reducible first | exact HB.out | apply below_alloc | apply pw_below_drewN | apply below_drew1) | exact HB.out)) hb); have n1_ := Aside0.mk (hbox); have n2_ := Aside0.mk ((by rw [hg]; exact (below_size (by repeat (first | (with_reducible first | exact HB.out | apply below_alloc | apply pw_below_drewN | apply below_drew1) | exact HB.out))) : w.heap.size ≤ gb260)); have n3_ := Aside0.mk ((by rw [hg]; exact (below_size (by repeat (first | (with_reducible first | exact HB.out | apply below_alloc | apply pw_below_drewN | apply below_drew1) | exact HB.out))) : w.heap.size ≤ gb260)); clear HB; have HB := n0_; have BK260 := n1_; have GW260 := n2_; have GE260 := n3_; clear n0_ n1_ n2_ n3_; clear hb hbox hg; have hcz26_0 : w25.cell? ⟨gb260, 0, none⟩ = some (.int .i32 0) := (blk_cell BK260.out 0).trans rfl; have hcz26_1 : w25.cell? ⟨gb260, 1, none⟩ = some (.int .i64 0) := (blk_cell BK260.out 1).trans rfl; have hcz26_2 : w25.cell? ⟨gb260, 2, none⟩ = some (.string (⟨#[]⟩ : ByteArray)) := (blk_cell BK260.out 2).trans rfl; have hfz26_0 := blk_frozen BK260.out 0; have hfz26_1 := blk_frozen BK260.out 1; have hfz26_2 := blk_frozen BK260.out 2) | (go_at_call 124; (with_reducible refine (quillworkref01_May.calls k1 ((rd_T71 l0 x3_1).f0) true _ A19.out).mono ?_); rintro e w' ⟨rfl, ⟨nd, rfl⟩⟩))
                  go_ret
                  exact ⟨by first | rfl | (simp [errW_none, errW_some] <;> rfl) | (simp [*, errW_none, errW_some] <;> rfl), by repeat (first | (with_reducible first | exact HB.out | apply below_alloc | apply pw_below_drewN | apply below_drew1 | refine below_set ?_ GE260.out) | exact HB.out)⟩
                · rw [if_neg c24] at H
                  have c24b0 : decide (15 < ((rd_T71 l0 x3_1).f1)) = false := decide_eq_false c24
                  clear c24
                  replace H := Option.bind_eq_some_iff.mp H
                  obtain ⟨t263, A270, H⟩ := H
                  replace H : (if t263 = true then (quillworkref05_May.l0 k1 l0 (wrap64 (x3_1 + 1))) else (some false)) = some r := H
                  have A27 := Aside0.mk A270
                  clear A270
                  by_cases c28 : t263 = true
                  · subst c28
                    have H1 : (quillworkref05_May.l0 k1 l0 (wrap64 (x3_1 + 1))) = some r := by rw [if_pos rfl] at H; exact H
                    clear H
                    have H := H1
                    clear H1
                    have H' := Aside0.mk H
                    clear H
                    have p259 : 0 ≤ (x3_1 : Int) := of_decide_eq_true (by first | (with_reducible assumption) | assumption)
                    have q259 : x3_1 < (l0.length : Int) := of_decide_eq_true (by first | (with_reducible assumption) | assumption)
                    obtain ⟨ad259, e259, hx259_0, hx259_1, hx259_2⟩ := at_T71 HR0.out x3_1 p259 q259
                    cases e259
                    replace hx259_0 := (HB.out.cell (World.block_lt_of_cell? w _ hx259_0)).trans hx259_0
                    replace hx259_1 := (HB.out.cell (World.block_lt_of_cell? w _ hx259_1)).trans hx259_1
                    replace hx259_2 := (HB.out.cell (World.block_lt_of_cell? w _ hx259_2)).trans hx259_2
                    replace p259 := eq_true p259
                    replace q259 := eq_true q259
                    go_wp2_with (first | ((with_reducible refine gate_dst (N := 4) rfl ?_); refine box_event ?hg (N := 4) ?hd (cs := #[.int .i32 0, .int .i64 0, .string (⟨#[]⟩ : ByteArray)]) (t := 71) ?hr ?_; (case hd => rfl); (case hg => rfl); (case hr => first | (go_simp; done) | (go_simp; rfl)); intro gb260 hg w29 hbox hb; have n0_ := Aside0.mk (below_step (by repeat (first | (with_reducible first | exact HB.out | apply below_alloc | apply pw_below_drewN | apply below_drew1) | exact HB.out)) hb); have n1_ := Aside0.mk (hbox); have n2_ := Aside0.mk ((by rw [hg]; exact (below_size (by repeat (first | (with_reducible first | exact HB.out | apply below_alloc | apply pw_below_drewN | apply below_drew1) | exact HB.out))) : w.heap.size ≤ gb260)); have n3_ := Aside0.mk ((by rw [hg]; exact (below_size (by repeat (first | (with_reducible first | exact HB.out | apply below_alloc | apply pw_below_drewN | apply below_drew1) | exact HB.out))) : w.heap.size ≤ gb260)); clear HB; have HB := n0_; have BK260 := n1_; have GW260 := n2_; have GE260 := n3_; clear n0_ n1_ n2_ n3_; clear hb hbox hg; have hcz30_0 : w29.cell? ⟨gb260, 0, none⟩ = some (.int .i32 0) := (blk_cell BK260.out 0).trans rfl; have hcz30_1 : w29.cell? ⟨gb260, 1, none⟩ = some (.int .i64 0) := (blk_cell BK260.out 1).trans rfl; have hcz30_2 : w29.cell? ⟨gb260, 2, none⟩ = some (.string (⟨#[]⟩ : ByteArray)) := (blk_cell BK260.out 2).trans rfl; have hfz30_0 := blk_frozen BK260.out 0; have hfz30_1 := blk_frozen BK260.out 1; have hfz30_2 := blk_frozen BK260.out 2) | (go_at_call 124; (with_reducible refine (quillworkref01_May.calls k1 ((rd_T71 l0 x3_1).f0) true _ A19.out).mono ?_); rintro e w' ⟨rfl, ⟨nd, rfl⟩⟩) | (go_at_call 107; (with_reducible refine (quillworkref05_Link.calls k1 ((rd_T71 l0 x3_1).f2) true _ A27.out).mono ?_); rintro e w31 ⟨rfl, hb⟩; have n0_ := Aside0.mk (blk_below (g := gb260) (o := .cells #[.int .i32 ((rd_T71 l0 x3_1).f0), .int .i64 ((rd_T71 l0 x3_1).f1), .string ((rd_T71 l0 x3_1).f2)] 71 (0, 0)) (by (with_reducible repeat (first | refine blk_drewN ?_ _ | refine blk_drew ?_ | refine blk_alloc ?_ _)); refine blk_put (cs := #[.int .i32 ((rd_T71 l0 x3_1).f0), .int .i64 ((rd_T71 l0 x3_1).f1), .string (⟨#[]⟩ : ByteArray)]) ?_ 2 _ rfl; (with_reducible repeat (first | refine blk_drewN ?_ _ | refine blk_drew ?_ | refine blk_alloc ?_ _)); refine blk_put (cs := #[.int .i32 ((rd_T71 l0 x3_1).f0), .int .i64 0, .string (⟨#[]⟩ : ByteArray)]) ?_ 1 _ rfl; (with_reducible repeat (first | refine blk_drewN ?_ _ | refine blk_drew ?_ | refine blk_alloc ?_ _)); refine blk_put (cs := #[.int .i32 0, .int .i64 0, .string (⟨#[]⟩ : ByteArray)]) ?_ 0 _ rfl; (with_reducible repeat (first | refine blk_drewN ?_ _ | refine blk_drew ?_ | refine blk_alloc ?_ _)); exact BK260.out) hb); have n1_ := Aside0.mk (below_step (by repeat (first | (with_reducible first | exact HB.out | apply below_alloc | apply pw_below_drewN | apply below_drew1 | refine below_set ?_ GE260.out) | exact HB.out)) hb); clear BK260; clear HB; have BK260 := n0_; have HB := n1_; clear n0_ n1_; (try clear hb); (try clear hb2); (try clear hk); (try clear hi)))
                    go_roundg k1
                    case measure => have := HK1.out; omega
                    case rel => exact ⟨(wrap64 (x3_1 + 1)), (by first | rfl | (simp; done) | (simp [*]; done)), H', ⟨by have := HK1.out; omega⟩, ⟨by repeat (first | (with_reducible first | exact HB.out | apply below_alloc | apply pw_below_drewN | apply below_drew1 | refine below_set ?_ GE260.out) | exact HB.out)⟩⟩
                  · replace c28 := Bool.eq_false_iff.mpr c28
                    subst c28
                    have H1 : (some false) = some r := by rw [if_neg (show ¬ (false = true) by decide)] at H; exact H
                    clear H
                    have H := H1
                    clear H1
                    obtain rfl := Option.some.inj H
                    have p259 : 0 ≤ (x3_1 : Int) := of_decide_eq_true (by first | (with_reducible assumption) | assumption)
                    have q259 : x3_1 < (l0.length : Int) := of_decide_eq_true (by first | (with_reducible assumption) | assumption)
                    obtain ⟨ad259, e259, hx259_0, hx259_1, hx259_2⟩ := at_T71 HR0.out x3_1 p259 q259
                    cases e259
                    replace hx259_0 := (HB.out.cell (World.block_lt_of_cell? w _ hx259_0)).trans hx259_0
                    replace hx259_1 := (HB.out.cell (World.block_lt_of_cell? w _ hx259_1)).trans hx259_1
                    replace hx259_2 := (HB.out.cell (World.block_lt_of_cell? w _ hx259_2)).trans hx259_2
                    replace p259 := eq_true p259
                    replace q259 := eq_true q259
                    go_wp2_with (first | ((with_reducible refine gate_dst (N := 4) rfl ?_); refine box_event ?hg (N := 4) ?hd (cs := #[.int .i32 0, .int .i64 0, .string (⟨#[]⟩ : ByteArray)]) (t := 71) ?hr ?_; (case hd => rfl); (case hg => rfl); (case hr => first | (go_simp; done) | (go_simp; rfl)); intro gb260 hg w32 hbox hb; have n0_ := Aside0.mk (below_step (by repeat (first | (with_reducible first | exact HB.out | apply below_alloc | apply pw_below_drewN | apply below_drew1) | exact HB.out)) hb); have n1_ := Aside0.mk (hbox); have n2_ := Aside0.mk ((by rw [hg]; exact (below_size (by repeat (first | (with_reducible first | exact HB.out | apply below_alloc | apply pw_below_drewN | apply below_drew1) | exact HB.out))) : w.heap.size ≤ gb260)); have n3_ := Aside0.mk ((by rw [hg]; exact (below_size (by repeat (first | (with_reducible first | exact HB.out | apply below_alloc | apply pw_below_drewN | apply below_drew1) | exact HB.out))) : w.heap.size ≤ gb260)); clear HB; have HB := n0_; have BK260 := n1_; have GW260 := n2_; have GE260 := n3_; clear n0_ n1_ n2_ n3_; clear hb hbox hg; have hcz33_0 : w32.cell? ⟨gb260, 0, none⟩ = some (.int .i32 0) := (blk_cell BK260.out 0).trans rfl; have hcz33_1 : w32.cell? ⟨gb260, 1, none⟩ = some (.int .i64 0) := (blk_cell BK260.out 1).trans rfl; have hcz33_2 : w32.cell? ⟨gb260, 2, none⟩ = some (.string (⟨#[]⟩ : ByteArray)) := (blk_cell BK260.out 2).trans rfl; have hfz33_0 := blk_frozen BK260.out 0; have hfz33_1 := blk_frozen BK260.out 1; have hfz33_2 := blk_frozen BK260.out 2) | (go_at_call 124; (with_reducible refine (quillworkref01_May.calls k1 ((rd_T71 l0 x3_1).f0) true _ A19.out).mono ?_); rintro e w' ⟨rfl, ⟨nd, rfl⟩⟩) | (go_at_call 107; (with_reducible refine (quillworkref05_Link.calls k1 ((rd_T71 l0 x3_1).f2) false _ A27.out).mono ?_); rintro e w34 ⟨rfl, hb⟩; have n0_ := Aside0.mk (blk_below (g := gb260) (o := .cells #[.int .i32 ((rd_T71 l0 x3_1).f0), .int .i64 ((rd_T71 l0 x3_1).f1), .string ((rd_T71 l0 x3_1).f2)] 71 (0, 0)) (by (with_reducible repeat (first | refine blk_drewN ?_ _ | refine blk_drew ?_ | refine blk_alloc ?_ _)); refine blk_put (cs := #[.int .i32 ((rd_T71 l0 x3_1).f0), .int .i64 ((rd_T71 l0 x3_1).f1), .string (⟨#[]⟩ : ByteArray)]) ?_ 2 _ rfl; (with_reducible repeat (first | refine blk_drewN ?_ _ | refine blk_drew ?_ | refine blk_alloc ?_ _)); refine blk_put (cs := #[.int .i32 ((rd_T71 l0 x3_1).f0), .int .i64 0, .string (⟨#[]⟩ : ByteArray)]) ?_ 1 _ rfl; (with_reducible repeat (first | refine blk_drewN ?_ _ | refine blk_drew ?_ | refine blk_alloc ?_ _)); refine blk_put (cs := #[.int .i32 0, .int .i64 0, .string (⟨#[]⟩ : ByteArray)]) ?_ 0 _ rfl; (with_reducible repeat (first | refine blk_drewN ?_ _ | refine blk_drew ?_ | refine blk_alloc ?_ _)); exact BK260.out) hb); have n1_ := Aside0.mk (below_step (by repeat (first | (with_reducible first | exact HB.out | apply below_alloc | apply pw_below_drewN | apply below_drew1 | refine below_set ?_ GE260.out) | exact HB.out)) hb); clear BK260; clear HB; have BK260 := n0_; have HB := n1_; clear n0_ n1_; (try clear hb); (try clear hb2); (try clear hk); (try clear hi)))
                    go_ret
                    exact ⟨by first | rfl | (simp [errW_none, errW_some] <;> rfl) | (simp [*, errW_none, errW_some] <;> rfl), by repeat (first | (with_reducible first | exact HB.out | apply below_alloc | apply pw_below_drewN | apply below_drew1 | refine below_set ?_ GE260.out) | exact HB.out)⟩
            · replace c20 := Bool.eq_false_iff.mpr c20
              subst c20
              have H1 : (some false) = some r := by rw [if_neg (show ¬ (false = true) by decide)] at H; exact H
              clear H
              have H := H1
              clear H1
              obtain rfl := Option.some.inj H
              have p259 : 0 ≤ (x3_1 : Int) := of_decide_eq_true (by first | (with_reducible assumption) | assumption)
              have q259 : x3_1 < (l0.length : Int) := of_decide_eq_true (by first | (with_reducible assumption) | assumption)
              obtain ⟨ad259, e259, hx259_0, hx259_1, hx259_2⟩ := at_T71 HR0.out x3_1 p259 q259
              cases e259
              replace hx259_0 := (HB.out.cell (World.block_lt_of_cell? w _ hx259_0)).trans hx259_0
              replace hx259_1 := (HB.out.cell (World.block_lt_of_cell? w _ hx259_1)).trans hx259_1
              replace hx259_2 := (HB.out.cell (World.block_lt_of_cell? w _ hx259_2)).trans hx259_2
              replace p259 := eq_true p259
              replace q259 := eq_true q259
              go_wp2_with (first | ((with_reducible refine gate_dst (N := 4) rfl ?_); refine box_event ?hg (N := 4) ?hd (cs := #[.int .i32 0, .int .i64 0, .string (⟨#[]⟩ : ByteArray)]) (t := 71) ?hr ?_; (case hd => rfl); (case hg => rfl); (case hr => first | (go_simp; done) | (go_simp; rfl)); intro gb260 hg w35 hbox hb; have n0_ := Aside0.mk (below_step (by repeat (first | (with_reducible first | exact HB.out | apply below_alloc | apply pw_below_drewN | apply below_drew1) | exact HB.out)) hb); have n1_ := Aside0.mk (hbox); have n2_ := Aside0.mk ((by rw [hg]; exact (below_size (by repeat (first | (with_reducible first | exact HB.out | apply below_alloc | apply pw_below_drewN | apply below_drew1) | exact HB.out))) : w.heap.size ≤ gb260)); have n3_ := Aside0.mk ((by rw [hg]; exact (below_size (by repeat (first | (with_reducible first | exact HB.out | apply below_alloc | apply pw_below_drewN | apply below_drew1) | exact HB.out))) : w.heap.size ≤ gb260)); clear HB; have HB := n0_; have BK260 := n1_; have GW260 := n2_; have GE260 := n3_; clear n0_ n1_ n2_ n3_; clear hb hbox hg; have hcz36_0 : w35.cell? ⟨gb260, 0, none⟩ = some (.int .i32 0) := (blk_cell BK260.out 0).trans rfl; have hcz36_1 : w35.cell? ⟨gb260, 1, none⟩ = some (.int .i64 0) := (blk_cell BK260.out 1).trans rfl; have hcz36_2 : w35.cell? ⟨gb260, 2, none⟩ = some (.string (⟨#[]⟩ : ByteArray)) := (blk_cell BK260.out 2).trans rfl; have hfz36_0 := blk_frozen BK260.out 0; have hfz36_1 := blk_frozen BK260.out 1; have hfz36_2 := blk_frozen BK260.out 2) | (go_at_call 124; (with_reducible refine (quillworkref01_May.calls k1 ((rd_T71 l0 x3_1).f0) false _ A19.out).mono ?_); rintro e w' ⟨rfl, ⟨nd, rfl⟩⟩))
              go_ret
              exact ⟨by first | rfl | (simp [errW_none, errW_some] <;> rfl) | (simp [*, errW_none, errW_some] <;> rfl), by repeat (first | (with_reducible first | exact HB.out | apply below_alloc | apply pw_below_drewN | apply below_drew1 | refine below_set ?_ GE260.out) | exact HB.out)⟩
        · rw [if_neg c3] at H
          exact absurd H (by simp)
      · rw [if_neg c2] at H
        have c2b0 : decide (x3_1 < (l0.length : Int)) = false := decide_eq_false c2
        clear c2
        obtain rfl := Option.some.inj H
        go_wp2
        go_ret
        exact ⟨by first | rfl | (simp [errW_none, errW_some] <;> rfl) | (simp [*, errW_none, errW_some] <;> rfl), by repeat (first | (with_reducible first | exact HB.out | apply below_alloc | apply pw_below_drewN | apply below_drew1) | exact HB.out)⟩

end Go.Proofs.YtgdpknmffohhaaaDoor.Pl

namespace Go.Proofs.YtgdpknmffohhaaaDoor.Pl
open Go.RowKit Go.Proofs.YtgdpknmffohhaaaDoorW.PrintWords Go.Proofs.YtgdpknmffohhaaaDoorW.PrintLast Go.Proofs.YtgdpknmffohhaaaDoorW.PrintMore
attribute [local go_sem] max2_int min2_int max_two min_two max_three min_three max_four min_four   -- for this text's walks alone
set_option linter.unusedVariables false
set_option linter.unusedSimpArgs false

/-! ### quillworkref06_May: function 38 -/
mutual
def quillworkref06_May.j0 : Nat → Bool → Int → List Int → Int → List (S71) → Option (Bool)
  | 0, _, _, _, _, _ => none
  | k + 1, x27, x265000, x265001, x265002, x265003 => if x27 = true then (some false) else (quillworkref06_May.l0 k 0 x265000 x265001 x265002 x265003)
def quillworkref06_May.l0 : Nat → Int → Int → List Int → Int → List (S71) → Option (Bool)
  | 0, _, _, _, _, _ => none
  | k + 1, x3, x265000, x265001, x265002, x265003 => if x3 < (x265001.length : Int) then (if 0 ≤ x3 then (if (rd x265001 x3) = 0 then (if x265002 = 0 then (quillworkref06_May.l0 k (wrap64 (x3 + 1)) x265000 x265001 x265002 x265003) else (some false)) else (if (rd x265001 x3) = 1 then (if x265002 = 0 then (quillworkref06_May.l0 k (wrap64 (x3 + 1)) x265000 x265001 x265002 x265003) else (some false)) else (some false))) else (none)) else ((quillworkref05_May.f k x265003).bind fun t267 => (some t267))
end
def quillworkref06_May.f (k : Nat) (a0_0 : Int) (l0_1 : List Int) (a0_2 : Int) (l0_3 : List (S71)) : Option (Bool) := if a0_0 < 0 then (quillworkref06_May.j0 k true a0_0 l0_1 a0_2 l0_3) else (if a0_0 > 6 then (quillworkref06_May.j0 k true a0_0 l0_1 a0_2 l0_3) else (if (l0_1.length : Int) > 6 then (quillworkref06_May.j0 k true a0_0 l0_1 a0_2 l0_3) else (if a0_2 < 0 then (quillworkref06_May.j0 k true a0_0 l0_1 a0_2 l0_3) else (quillworkref06_May.j0 k (decide (a0_2 > 3)) a0_0 l0_1 a0_2 l0_3))))
set_option maxHeartbeats 8000000 in
set_option maxRecDepth 100000 in
theorem quillworkref06_May.calls (k : Nat) (a0_0 : Int) (A0_1 : Option Addr) (c0_1 : Nat) (l0_1 : List Int) (a0_2 : Int) (A0_3 : Option Addr) (c0_3 : Nat) (l0_3 : List (S71)) (r : Bool) (w : World) (hr0_1 : Kd.C (Kd.int .i64) w A0_1 l0_1.length l0_1) (hc0_1 : l0_1.length ≤ c0_1) (hr0_3 : Kd.C k71 w A0_3 l0_3.length l0_3) (hc0_3 : l0_3.length ≤ c0_3) (h : quillworkref06_May.f k a0_0 l0_1 a0_2 l0_3 = some r) :
    Calls Tryd.prog 38 #[.agg #[.int .i64 a0_0, .slice A0_1 l0_1.length c0_1, .int .i64 a0_2, .slice A0_3 l0_3.length c0_3]] w fun e w' => e = .returned (.bool r) ∧ Below w.heap.size w w' := by
  have hu38 := Tryd.underlying38
  have HR0_1 := Aside0.mk hr0_1
  have HC0_1 := Aside0.mk hc0_1
  clear hr0_1 hc0_1
  have HR0_3 := Aside0.mk hr0_3
  have HC0_3 := Aside0.mk hc0_3
  clear hr0_3 hc0_3
  have HB := Aside0.mk (Below.refl w.heap.size w)
  have H : (if a0_0 < 0 then (quillworkref06_May.j0 k true a0_0 l0_1 a0_2 l0_3) else (if a0_0 > 6 then (quillworkref06_May.j0 k true a0_0 l0_1 a0_2 l0_3) else (if (l0_1.length : Int) > 6 then (quillworkref06_May.j0 k true a0_0 l0_1 a0_2 l0_3) else (if a0_2 < 0 then (quillworkref06_May.j0 k true a0_0 l0_1 a0_2 l0_3) else (quillworkref06_May.j0 k (decide (a0_2 > 3)) a0_0 l0_1 a0_2 l0_3))))) = some r := h
  clear h
  have HC2 := Aside0.mk H
  clear H
  go_enter Tryd.func38, Tryd.ntmps38
  go_upto_region 1 with (first | ((with_reducible refine gate_dst (N := 1) rfl ?_); (try (refine gate_guard (by rfl) ?_; dsimp only)); refine box_event ?hg (N := 1) ?hd (cs := #[.int .i64 a0_0, .slice A0_1 l0_1.length c0_1, .int .i64 a0_2, .slice A0_3 l0_3.length c0_3]) (t := 38) ?hr ?_; (case hd => rfl); (case hg => rfl); (case hr => first | (go_simp; done) | (go_simp; rfl)); intro gb264 hg w3 hbox hb; have n0_ := Aside0.mk (below_step (by repeat (first | (with_reducible first | exact HB.out | apply below_alloc | apply pw_below_drewN | apply below_drew1) | exact HB.out)) hb); have n1_ := Aside0.mk (hbox); have n2_ := Aside0.mk ((by rw [hg]; exact (below_size (by repeat (first | (with_reducible first | exact HB.out | apply below_alloc | apply pw_below_drewN | apply below_drew1) | exact HB.out))) : w.heap.size ≤ gb264)); have n3_ := Aside0.mk ((by rw [hg]; exact (below_size (by repeat (first | (with_reducible first | exact HB.out | apply below_alloc | apply pw_below_drewN | apply below_drew1) | exact HB.out))) : w.heap.size ≤ gb264)); clear HB; have HB := n0_; have BK264 := n1_; have GW264 := n2_; have GE264 := n3_; clear n0_ n1_ n2_ n3_; clear hb hbox hg))
  (try simp only [Act.put, List.setIfInBounds_toArray, List.set_cons_zero, List.set_cons_succ])
  go_cut [27] (fun v27 wc => ∃ (kq : Nat) (x27_1 : Bool), v27 = .bool x27_1 ∧ Aside0 (quillworkref06_May.j0 kq x27_1 a0_0 l0_1 a0_2 l0_3 = some r) ∧ Aside0 (kq ≤ k) ∧ Aside0 (wc.heap[gb264]? = some (.cells #[.int .i64 a0_0, (.slice A0_1 l0_1.length c0_1), .int .i64 a0_2, (.slice A0_3 l0_3.length c0_3)] 38 (0, 0))) ∧ Aside0 (Below w.heap.size w wc))
  case first =>
    have H := HC2.out
    clear HC2
    by_cases c4 : a0_0 < 0
    · rw [if_pos c4] at H
      have c4b0 : decide (a0_0 < 0) = true := decide_eq_true c4
      clear c4
      (first | rw [c4b0] | (simp only [i64_w, i32_w]; rw [c4b0]) | skip)
      have H' := Aside0.mk H
      clear H
      have hcz5_0 : w3.cell? ⟨gb264, 0, none⟩ = some (.int .i64 a0_0) := (blk_cell BK264.out 0).trans rfl
      have hcz5_1 : w3.cell? ⟨gb264, 1, none⟩ = some (.slice A0_1 l0_1.length c0_1) := (blk_cell BK264.out 1).trans rfl
      have hcz5_2 : w3.cell? ⟨gb264, 2, none⟩ = some (.int .i64 a0_2) := (blk_cell BK264.out 2).trans rfl
      have hcz5_3 : w3.cell? ⟨gb264, 3, none⟩ = some (.slice A0_3 l0_3.length c0_3) := (blk_cell BK264.out 3).trans rfl
      have hfz5_0 := blk_frozen BK264.out 0
      have hfz5_1 := blk_frozen BK264.out 1
      have hfz5_2 := blk_frozen BK264.out 2
      have hfz5_3 := blk_frozen BK264.out 3
      go_wp2
      go_meet
      case rel => exact ⟨_, (true), (by first | rfl | (simp; done) | (simp [*]; done)), H', ⟨by first | omega | exact Nat.le_refl _⟩, ⟨by (with_reducible repeat (first | refine blk_drewN ?_ _ | refine blk_drew ?_ | refine blk_alloc ?_ _)); exact BK264.out⟩, ⟨by repeat (first | (with_reducible first | exact HB.out | apply below_alloc | apply pw_below_drewN | apply below_drew1 | refine below_set ?_ GE264.out) | exact HB.out)⟩⟩
    · rw [if_neg c4] at H
      have c4b0 : decide (a0_0 < 0) = false := decide_eq_false c4
      clear c4
      (first | rw [c4b0] | (simp only [i64_w, i32_w]; rw [c4b0]) | skip)
      by_cases c6 : a0_0 > 6
      · rw [if_pos c6] at H
        have c6b0 : decide (6 < a0_0) = true := decide_eq_true c6
        clear c6
        have H' := Aside0.mk H
        clear H
        have hcz7_0 : w3.cell? ⟨gb264, 0, none⟩ = some (.int .i64 a0_0) := (blk_cell BK264.out 0).trans rfl
        have hcz7_1 : w3.cell? ⟨gb264, 1, none⟩ = some (.slice A0_1 l0_1.length c0_1) := (blk_cell BK264.out 1).trans rfl
        have hcz7_2 : w3.cell? ⟨gb264, 2, none⟩ = some (.int .i64 a0_2) := (blk_cell BK264.out 2).trans rfl
        have hcz7_3 : w3.cell? ⟨gb264, 3, none⟩ = some (.slice A0_3 l0_3.length c0_3) := (blk_cell BK264.out 3).trans rfl
        have hfz7_0 := blk_frozen BK264.out 0
        have hfz7_1 := blk_frozen BK264.out 1
        have hfz7_2 := blk_frozen BK264.out 2
        have hfz7_3 := blk_frozen BK264.out 3
        go_wp2
        go_meet
        case rel => exact ⟨_, (true), (by first | rfl | (simp; done) | (simp [*]; done)), H', ⟨by first | omega | exact Nat.le_refl _⟩, ⟨by (with_reducible repeat (first | refine blk_drewN ?_ _ | refine blk_drew ?_ | refine blk_alloc ?_ _)); exact BK264.out⟩, ⟨by repeat (first | (with_reducible first | exact HB.out | apply below_alloc | apply pw_below_drewN | apply below_drew1 | refine below_set ?_ GE264.out) | exact HB.out)⟩⟩
      · rw [if_neg c6] at H
        have c6b0 : decide (6 < a0_0) = false := decide_eq_false c6
        clear c6
        by_cases c8 : (l0_1.length : Int) > 6
        · rw [if_pos c8] at H
          have c8b0 : decide (6 < (l0_1.length : Int)) = true := decide_eq_true c8
          have c8b1 : decide (6 < l0_1.length) = true := decide_eq_true (by omega)
          clear c8
          have H' := Aside0.mk H
          clear H
          have hcz9_0 : w3.cell? ⟨gb264, 0, none⟩ = some (.int .i64 a0_0) := (blk_cell BK264.out 0).trans rfl
          have hcz9_1 : w3.cell? ⟨gb264, 1, none⟩ = some (.slice A0_1 l0_1.length c0_1) := (blk_cell BK264.out 1).trans rfl
          have hcz9_2 : w3.cell? ⟨gb264, 2, none⟩ = some (.int .i64 a0_2) := (blk_cell BK264.out 2).trans rfl
          have hcz9_3 : w3.cell? ⟨gb264, 3, none⟩ = some (.slice A0_3 l0_3.length c0_3) := (blk_cell BK264.out 3).trans rfl
          have hfz9_0 := blk_frozen BK264.out 0
          have hfz9_1 := blk_frozen BK264.out 1
          have hfz9_2 := blk_frozen BK264.out 2
          have hfz9_3 := blk_frozen BK264.out 3
          go_wp2
          go_meet
          case rel => exact ⟨_, (true), (by first | rfl | (simp; done) | (simp [*]; done)), H', ⟨by first | omega | exact Nat.le_refl _⟩, ⟨by (with_reducible repeat (first | refine blk_drewN ?_ _ | refine blk_drew ?_ | refine blk_alloc ?_ _)); exact BK264.out⟩, ⟨by repeat (first | (with_reducible first | exact HB.out | apply below_alloc | apply pw_below_drewN | apply below_drew1 | refine below_set ?_ GE264.out) | exact HB.out)⟩⟩
        · rw [if_neg c8] at H
          have c8b0 : decide (6 < (l0_1.length : Int)) = false := decide_eq_false c8
          have c8b1 : decide (6 < l0_1.length) = false := decide_eq_false (by omega)
          clear c8
          by_cases c10 : a0_2 < 0
          · rw [if_pos c10] at H
            have c10b0 : decide (a0_2 < 0) = true := decide_eq_true c10
            clear c10
            have H' := Aside0.mk H
            clear H
            have hcz11_0 : w3.cell? ⟨gb264, 0, none⟩ = some (.int .i64 a0_0) := (blk_cell BK264.out 0).trans rfl
            have hcz11_1 : w3.cell? ⟨gb264, 1, none⟩ = some (.slice A0_1 l0_1.length c0_1) := (blk_cell BK264.out 1).trans rfl
            have hcz11_2 : w3.cell? ⟨gb264, 2, none⟩ = some (.int .i64 a0_2) := (blk_cell BK264.out 2).trans rfl
            have hcz11_3 : w3.cell? ⟨gb264, 3, none⟩ = some (.slice A0_3 l0_3.length c0_3) := (blk_cell BK264.out 3).trans rfl
            have hfz11_0 := blk_frozen BK264.out 0
            have hfz11_1 := blk_frozen BK264.out 1
            have hfz11_2 := blk_frozen BK264.out 2
            have hfz11_3 := blk_frozen BK264.out 3
            go_wp2
            go_meet
            case rel => exact ⟨_, (true), (by first | rfl | (simp; done) | (simp [*]; done)), H', ⟨by first | omega | exact Nat.le_refl _⟩, ⟨by (with_reducible repeat (first | refine blk_drewN ?_ _ | refine blk_drew ?_ | refine blk_alloc ?_ _)); exact BK264.out⟩, ⟨by repeat (first | (with_reducible first | exact HB.out | apply below_alloc | apply pw_below_drewN | apply below_drew1 | refine below_set ?_ GE264.out) | exact HB.out)⟩⟩
          · rw [if_neg c10] at H
            have c10b0 : decide (a0_2 < 0) = false := decide_eq_false c10
            clear c10
            have H' := Aside0.mk H
            clear H
            have hcz12_0 : w3.cell? ⟨gb264, 0, none⟩ = some (.int .i64 a0_0) := (blk_cell BK264.out 0).trans rfl
            have hcz12_1 : w3.cell? ⟨gb264, 1, none⟩ = some (.slice A0_1 l0_1.length c0_1) := (blk_cell BK264.out 1).trans rfl
            have hcz12_2 : w3.cell? ⟨gb264, 2, none⟩ = some (.int .i64 a0_2) := (blk_cell BK264.out 2).trans rfl
            have hcz12_3 : w3.cell? ⟨gb264, 3, none⟩ = some (.slice A0_3 l0_3.length c0_3) := (blk_cell BK264.out 3).trans rfl
            have hfz12_0 := blk_frozen BK264.out 0
            have hfz12_1 := blk_frozen BK264.out 1
            have hfz12_2 := blk_frozen BK264.out 2
            have hfz12_3 := blk_frozen BK264.out 3
            go_wp2
            go_meet
            case rel => exact ⟨_, (decide (a0_2 > 3)), (by first | rfl | (simp; done) | (simp [*]; done)), H', ⟨by first | omega | exact Nat.le_refl _⟩, ⟨by (with_reducible repeat (first | refine blk_drewN ?_ _ | refine blk_drew ?_ | refine blk_alloc ?_ _)); exact BK264.out⟩, ⟨by repeat (first | (with_reducible first | exact HB.out | apply below_alloc | apply pw_below_drewN | apply below_drew1 | refine below_set ?_ GE264.out) | exact HB.out)⟩⟩
  case rest =>
    clear HC2
    try clear c1
    try clear p2
    try clear c3
    try clear c4
    try clear c4b0
    try clear c6
    try clear c6b0
    try clear c8
    try clear c8b0
    try clear c8b1
    try clear c10
    try clear c10b0
    try clear hcz11_0
    try clear hcz11_1
    try clear hcz11_2
    try clear hcz11_3
    try clear hcz12_0
    try clear hcz12_1
    try clear hcz12_2
    try clear hcz12_3
    try clear hcz5_0
    try clear hcz5_1
    try clear hcz5_2
    try clear hcz5_3
    try clear hcz7_0
    try clear hcz7_1
    try clear hcz7_2
    try clear hcz7_3
    try clear hcz9_0
    try clear hcz9_1
    try clear hcz9_2
    try clear hcz9_3
    try clear hfz11_0
    try clear hfz11_1
    try clear hfz11_2
    try clear hfz11_3
    try clear hfz12_0
    try clear hfz12_1
    try clear hfz12_2
    try clear hfz12_3
    try clear hfz5_0
    try clear hfz5_1
    try clear hfz5_2
    try clear hfz5_3
    try clear hfz7_0
    try clear hfz7_1
    try clear hfz7_2
    try clear hfz7_3
    try clear hfz9_0
    try clear hfz9_1
    try clear hfz9_2
    try clear hfz9_3
    obtain ⟨kq, x27_1, rfl, HA, HJ1, BK264, HB⟩ := hcut
    cases kq with
    | zero => exact absurd HA.out (by simp [quillworkref06_May.j0])
    | succ kj1 =>
      have H := HA.out
      clear HA
      simp only [quillworkref06_May.j0] at H
      by_cases c13 : x27_1 = true
      · subst c13
        have H1 : (some false) = some r := by rw [if_pos rfl] at H; exact H
        clear H
        have H := H1
        clear H1
        obtain rfl := Option.some.inj H
        go_wp2
        go_ret
        exact ⟨by first | rfl | (simp [errW_none, errW_some] <;> rfl) | (simp [*, errW_none, errW_some] <;> rfl), by repeat (first | (with_reducible first | exact HB.out | apply below_alloc | apply pw_below_drewN | apply below_drew1 | refine below_set ?_ GE264.out) | exact HB.out)⟩
      · replace c13 := Bool.eq_false_iff.mpr c13
        subst c13
        have H1 : (quillworkref06_May.l0 kj1 0 a0_0 l0_1 a0_2 l0_3) = some r := by rw [if_neg (show ¬ (false = true) by decide)] at H; exact H
        clear H
        have H := H1
        clear H1
        have H' := Aside0.mk H
        clear H
        go_wp2
        go_loopg [3] kj1 (fun kq v3 w' => ∃ (x3_2 : Int), v3 = .int .i64 x3_2 ∧ Aside0 (quillworkref06_May.l0 kq x3_2 a0_0 l0_1 a0_2 l0_3 = some r) ∧ Aside0 (kq ≤ kj1) ∧ Aside0 (w'.heap[gb264]? = some (.cells #[.int .i64 a0_0, (.slice A0_1 l0_1.length c0_1), .int .i64 a0_2, (.slice A0_3 l0_3.length c0_3)] 38 (0, 0))) ∧ Aside0 (Below w.heap.size w w'))
        case atStart => exact ⟨(0), (by first | rfl | (simp; done) | (simp [*]; done)), H', ⟨Nat.le_refl _⟩, ⟨by (with_reducible repeat (first | refine blk_drewN ?_ _ | refine blk_drew ?_ | refine blk_alloc ?_ _)); exact BK264.out⟩, ⟨by repeat (first | (with_reducible first | exact HB.out | apply below_alloc | apply pw_below_drewN | apply below_drew1 | refine below_set ?_ GE264.out) | exact HB.out)⟩⟩
        case round =>
          clear H'
          try clear c1
          try clear p2
          try clear c3
          try clear c4
          try clear c4b0
          try clear c6
          try clear c6b0
          try clear c8
          try clear c8b0
          try clear c8b1
          try clear c10
          try clear c10b0
          try clear c13
          try clear hcz11_0
          try clear hcz11_1
          try clear hcz11_2
          try clear hcz11_3
          try clear hcz12_0
          try clear hcz12_1
          try clear hcz12_2
          try clear hcz12_3
          try clear hcz5_0
          try clear hcz5_1
          try clear hcz5_2
          try clear hcz5_3
          try clear hcz7_0
          try clear hcz7_1
          try clear hcz7_2
          try clear hcz7_3
          try clear hcz9_0
          try clear hcz9_1
          try clear hcz9_2
          try clear hcz9_3
          try clear hfz11_0
          try clear hfz11_1
          try clear hfz11_2
          try clear hfz11_3
          try clear hfz12_0
          try clear hfz12_1
          try clear hfz12_2
          try clear hfz12_3
          try clear hfz5_0
          try clear hfz5_1
          try clear hfz5_2
          try clear hfz5_3
          try clear hfz7_0
          try clear hfz7_1
          try clear hfz7_2
          try clear hfz7_3
          try clear hfz9_0
          try clear hfz9_1
          try clear hfz9_2
          try clear hfz9_3
          try clear p2
          obtain ⟨x3_2, rfl, HA, HK2, BK264, HB⟩ := hrel
          cases gk with
          | zero => exact absurd HA.out (by simp [quillworkref06_May.l0])
          | succ k2 =>
            have H := HA.out
            clear HA
            simp only [quillworkref06_May.l0] at H
            by_cases c14 : x3_2 < (l0_1.length : Int)
            · rw [if_pos c14] at H
              have c14b0 : decide (x3_2 < (l0_1.length : Int)) = true := decide_eq_true c14
              clear c14
              by_cases c15 : 0 ≤ x3_2
              · rw [if_pos c15] at H
                have c15b0 : decide (0 ≤ x3_2) = true := decide_eq_true c15
                clear c15
                by_cases c16 : (rd l0_1 x3_2) = 0
                · rw [if_pos c16] at H
                  have c16b0 : ((rd l0_1 x3_2) == 0) = true := beq_iff_eq.mpr c16
                  have c16b1 : ((rd l0_1 x3_2) != 0) = false := bne_eq_false_iff_eq.mpr c16
                  clear c16
                  by_cases c17 : a0_2 = 0
                  · rw [if_pos c17] at H
                    have c17b0 : (a0_2 == 0) = true := beq_iff_eq.mpr c17
                    have c17b1 : (a0_2 != 0) = false := bne_eq_false_iff_eq.mpr c17
                    clear c17
                    have H' := Aside0.mk H
                    clear H
                    have hcz18_0 : wr.cell? ⟨gb264, 0, none⟩ = some (.int .i64 a0_0) := (blk_cell BK264.out 0).trans rfl
                    have hcz18_1 : wr.cell? ⟨gb264, 1, none⟩ = some (.slice A0_1 l0_1.length c0_1) := (blk_cell BK264.out 1).trans rfl
                    have hcz18_2 : wr.cell? ⟨gb264, 2, none⟩ = some (.int .i64 a0_2) := (blk_cell BK264.out 2).trans rfl
                    have hcz18_3 : wr.cell? ⟨gb264, 3, none⟩ = some (.slice A0_3 l0_3.length c0_3) := (blk_cell BK264.out 3).trans rfl
                    have hfz18_0 := blk_frozen BK264.out 0
                    have hfz18_1 := blk_frozen BK264.out 1
                    have hfz18_2 := blk_frozen BK264.out 2
                    have hfz18_3 := blk_frozen BK264.out 3
                    have p265 : 0 ≤ (x3_2 : Int) := of_decide_eq_true (by first | (with_reducible assumption) | assumption)
                    have q265 : x3_2 < (l0_1.length : Int) := of_decide_eq_true (by first | (with_reducible assumption) | assumption)
                    obtain ⟨ad265, e265, hx265_0⟩ := Kd.at_int HR0_1.out x3_2 p265 q265
                    cases e265
                    replace hx265_0 := (HB.out.cell (World.block_lt_of_cell? w _ hx265_0)).trans hx265_0
                    replace p265 := eq_true p265
                    replace q265 := eq_true q265
                    go_wp2
                    go_roundg k2
                    case measure => have := HJ1.out; have := HK2.out; omega
                    case rel => exact ⟨(wrap64 (x3_2 + 1)), (by first | rfl | (simp; done) | (simp [*]; done)), H', ⟨by have := HJ1.out; have := HK2.out; omega⟩, ⟨by (with_reducible repeat (first | refine blk_drewN ?_ _ | refine blk_drew ?_ | refine blk_alloc ?_ _)); exact BK264.out⟩, ⟨by repeat (first | (with_reducible first | exact HB.out | apply below_alloc | apply pw_below_drewN | apply below_drew1 | refine below_set ?_ GE264.out) | exact HB.out)⟩⟩
                  · rw [if_neg c17] at H
                    have c17b0 : (a0_2 == 0) = false := beq_eq_false_iff_ne.mpr c17
                    have c17b1 : (a0_2 != 0) = true := bne_iff_ne.mpr c17
                    obtain rfl := Option.some.inj H
                    have hcz19_0 : wr.cell? ⟨gb264, 0, none⟩ = some (.int .i64 a0_0) := (blk_cell BK264.out 0).trans rfl
                    have hcz19_1 : wr.cell? ⟨gb264, 1, none⟩ = some (.slice A0_1 l0_1.length c0_1) := (blk_cell BK264.out 1).trans rfl
                    have hcz19_2 : wr.cell? ⟨gb264, 2, none⟩ = some (.int .i64 a0_2) := (blk_cell BK264.out 2).trans rfl
                    have hcz19_3 : wr.cell? ⟨gb264, 3, none⟩ = some (.slice A0_3 l0_3.length c0_3) := (blk_cell BK264.out 3).trans rfl
                    have hfz19_0 := blk_frozen BK264.out 0
                    have hfz19_1 := blk_frozen BK264.out 1
                    have hfz19_2 := blk_frozen BK264.out 2
                    have hfz19_3 := blk_frozen BK264.out 3
                    have p265 : 0 ≤ (x3_2 : Int) := of_decide_eq_true (by first | (with_reducible assumption) | assumption)
                    have q265 : x3_2 < (l0_1.length : Int) := of_decide_eq_true (by first | (with_reducible assumption) | assumption)
                    obtain ⟨ad265, e265, hx265_0⟩ := Kd.at_int HR0_1.out x3_2 p265 q265
                    cases e265
                    replace hx265_0 := (HB.out.cell (World.block_lt_of_cell? w _ hx265_0)).trans hx265_0
                    replace p265 := eq_true p265
                    replace q265 := eq_true q265
                    go_wp2
                    go_ret
                    exact ⟨by first | rfl | (simp [errW_none, errW_some] <;> rfl) | (simp [*, errW_none, errW_some] <;> rfl), by repeat (first | (with_reducible first | exact HB.out | apply below_alloc | apply pw_below_drewN | apply below_drew1 | refine below_set ?_ GE264.out) | exact HB.out)⟩
                · rw [if_neg c16] at H
                  have c16b0 : ((rd l0_1 x3_2) == 0) = false := beq_eq_false_iff_ne.mpr c16
                  have c16b1 : ((rd l0_1 x3_2) != 0) = true := bne_iff_ne.mpr c16
                  by_cases c20 : (rd l0_1 x3_2) = 1
                  · rw [if_pos c20] at H
                    have c20b0 : ((rd l0_1 x3_2) == 1) = true := beq_iff_eq.mpr c20
                    have c20b1 : ((rd l0_1 x3_2) != 1) = false := bne_eq_false_iff_eq.mpr c20
                    clear c20
                    by_cases c21 : a0_2 = 0
                    · rw [if_pos c21] at H
                      have c21b0 : (a0_2 == 0) = true := beq_iff_eq.mpr c21
                      have c21b1 : (a0_2 != 0) = false := bne_eq_false_iff_eq.mpr c21
                      clear c21
                      have H' := Aside0.mk H
                      clear H
                      have hcz22_0 : wr.cell? ⟨gb264, 0, none⟩ = some (.int .i64 a0_0) := (blk_cell BK264.out 0).trans rfl
                      have hcz22_1 : wr.cell? ⟨gb264, 1, none⟩ = some (.slice A0_1 l0_1.length c0_1) := (blk_cell BK264.out 1).trans rfl
                      have hcz22_2 : wr.cell? ⟨gb264, 2, none⟩ = some (.int .i64 a0_2) := (blk_cell BK264.out 2).trans rfl
                      have hcz22_3 : wr.cell? ⟨gb264, 3, none⟩ = some (.slice A0_3 l0_3.length c0_3) := (blk_cell BK264.out 3).trans rfl
                      have hfz22_0 := blk_frozen BK264.out 0
                      have hfz22_1 := blk_frozen BK264.out 1
                      have hfz22_2 := blk_frozen BK264.out 2
                      have hfz22_3 := blk_frozen BK264.out 3
                      have p265 : 0 ≤ (x3_2 : Int) := of_decide_eq_true (by first | (with_reducible assumption) | assumption)
                      have q265 : x3_2 < (l0_1.length : Int) := of_decide_eq_true (by first | (with_reducible assumption) | assumption)
                      obtain ⟨ad265, e265, hx265_0⟩ := Kd.at_int HR0_1.out x3_2 p265 q265
                      cases e265
                      replace hx265_0 := (HB.out.cell (World.block_lt_of_cell? w _ hx265_0)).trans hx265_0
                      replace p265 := eq_true p265
                      replace q265 := eq_true q265
                      have p266 : 0 ≤ (x3_2 : Int) := of_decide_eq_true (by first | (with_reducible assumption) | assumption)
                      have q266 : x3_2 < (l0_1.length : Int) := of_decide_eq_true (by first | (with_reducible assumption) | assumption)
                      obtain ⟨ad266, e266, hx266_0⟩ := Kd.at_int HR0_1.out x3_2 p266 q266
                      obtain rfl : ad265 = ad266 := (by injection e266)
                      replace hx266_0 := (HB.out.cell (World.block_lt_of_cell? w _ hx266_0)).trans hx266_0
                      replace p266 := eq_true p266
                      replace q266 := eq_true q266
                      go_wp2
                      go_roundg k2
                      case measure => have := HJ1.out; have := HK2.out; omega
                      case rel => exact ⟨(wrap64 (x3_2 + 1)), (by first | rfl | (simp; done) | (simp [*]; done)), H', ⟨by have := HJ1.out; have := HK2.out; omega⟩, ⟨by (with_reducible repeat (first | refine blk_drewN ?_ _ | refine blk_drew ?_ | refine blk_alloc ?_ _)); exact BK264.out⟩, ⟨by repeat (first | (with_reducible first | exact HB.out | apply below_alloc | apply pw_below_drewN | apply below_drew1 | refine below_set ?_ GE264.out) | exact HB.out)⟩⟩
                    · rw [if_neg c21] at H
                      have c21b0 : (a0_2 == 0) = false := beq_eq_false_iff_ne.mpr c21
                      have c21b1 : (a0_2 != 0) = true := bne_iff_ne.mpr c21
                      obtain rfl := Option.some.inj H
                      have hcz23_0 : wr.cell? ⟨gb264, 0, none⟩ = some (.int .i64 a0_0) := (blk_cell BK264.out 0).trans rfl
                      have hcz23_1 : wr.cell? ⟨gb264, 1, none⟩ = some (.slice A0_1 l0_1.length c0_1) := (blk_cell BK264.out 1).trans rfl
                      have hcz23_2 : wr.cell? ⟨gb264, 2, none⟩ = some (.int .i64 a0_2) := (blk_cell BK264.out 2).trans rfl
                      have hcz23_3 : wr.cell? ⟨gb264, 3, none⟩ = some (.slice A0_3 l0_3.length c0_3) := (blk_cell BK264.out 3).trans rfl
                      have hfz23_0 := blk_frozen BK264.out 0
                      have hfz23_1 := blk_frozen BK264.out 1
                      have hfz23_2 := blk_frozen BK264.out 2
                      have hfz23_3 := blk_frozen BK264.out 3
                      have p265 : 0 ≤ (x3_2 : Int) := of_decide_eq_true (by first | (with_reducible assumption) | assumption)
                      have q265 : x3_2 < (l0_1.length : Int) := of_decide_eq_true (by first | (with_reducible assumption) | assumption)
                      obtain ⟨ad265, e265, hx265_0⟩ := Kd.at_int HR0_1.out x3_2 p265 q265
                      cases e265
                      replace hx265_0 := (HB.out.cell (World.block_lt_of_cell? w _ hx265_0)).trans hx265_0
                      replace p265 := eq_true p265
                      replace q265 := eq_true q265
                      have p266 : 0 ≤ (x3_2 : Int) := of_decide_eq_true (by first | (with_reducible assumption) | assumption)
                      have q266 : x3_2 < (l0_1.length : Int) := of_decide_eq_true (by first | (with_reducible assumption) | assumption)
                      obtain ⟨ad266, e266, hx266_0⟩ := Kd.at_int HR0_1.out x3_2 p266 q266
                      obtain rfl : ad265 = ad266 := (by injection e266)
                      replace hx266_0 := (HB.out.cell (World.block_lt_of_cell? w _ hx266_0)).trans hx266_0
                      replace p266 := eq_true p266
                      replace q266 := eq_true q266
                      go_wp2
                      go_ret
                      exact ⟨by first | rfl | (simp [errW_none, errW_some] <;> rfl) | (simp [*, errW_none, errW_some] <;> rfl), by repeat (first | (with_reducible first | exact HB.out | apply below_alloc | apply pw_below_drewN | apply below_drew1 | refine below_set ?_ GE264.out) | exact HB.out)⟩
                  · rw [if_neg c20] at H
                    have c20b0 : ((rd l0_1 x3_2) == 1) = false := beq_eq_false_iff_ne.mpr c20
                    have c20b1 : ((rd l0_1 x3_2) != 1) = true := bne_iff_ne.mpr c20
                    obtain rfl := Option.some.inj H
                    have hcz24_0 : wr.cell? ⟨gb264, 0, none⟩ = some (.int .i64 a0_0) := (blk_cell BK264.out 0).trans rfl
                    have hcz24_1 : wr.cell? ⟨gb264, 1, none⟩ = some (.slice A0_1 l0_1.length c0_1) := (blk_cell BK264.out 1).trans rfl
                    have hcz24_2 : wr.cell? ⟨gb264, 2, none⟩ = some (.int .i64 a0_2) := (blk_cell BK264.out 2).trans rfl
                    have hcz24_3 : wr.cell? ⟨gb264, 3, none⟩ = some (.slice A0_3 l0_3.length c0_3) := (blk_cell BK264.out 3).trans rfl
                    have hfz24_0 := blk_frozen BK264.out 0
                    have hfz24_1 := blk_frozen BK264.out 1
                    have hfz24_2 := blk_frozen BK264.out 2
                    have hfz24_3 := blk_frozen BK264.out 3
                    have p265 : 0 ≤ (x3_2 : Int) := of_decide_eq_true (by first | (with_reducible assumption) | assumption)
                    have q265 : x3_2 < (l0_1.length : Int) := of_decide_eq_true (by first | (with_reducible assumption) | assumption)
                    obtain ⟨ad265, e265, hx265_0⟩ := Kd.at_int HR0_1.out x3_2 p265 q265
                    cases e265
                    replace hx265_0 := (HB.out.cell (World.block_lt_of_cell? w _ hx265_0)).trans hx265_0
                    replace p265 := eq_true p265
                    replace q265 := eq_true q265
                    have p266 : 0 ≤ (x3_2 : Int) := of_decide_eq_true (by first | (with_reducible assumption) | assumption)
                    have q266 : x3_2 < (l0_1.length : Int) := of_decide_eq_true (by first | (with_reducible assumption) | assumption)
                    obtain ⟨ad266, e266, hx266_0⟩ := Kd.at_int HR0_1.out x3_2 p266 q266
                    obtain rfl : ad265 = ad266 := (by injection e266)
                    replace hx266_0 := (HB.out.cell (World.block_lt_of_cell? w _ hx266_0)).trans hx266_0
                    replace p266 := eq_true p266
                    replace q266 := eq_true q266
                    go_wp2
                    go_ret
                    exact ⟨by first | rfl | (simp [errW_none, errW_some] <;> rfl) | (simp [*, errW_none, errW_some] <;> rfl), by repeat (first | (with_reducible first | exact HB.out | apply below_alloc | apply pw_below_drewN | apply below_drew1 | refine below_set ?_ GE264.out) | exact HB.out)⟩
              · rw [if_neg c15] at H
                exact absurd H (by simp)
            · rw [if_neg c14] at H
              have c14b0 : decide (x3_2 < (l0_1.length : Int)) = false := decide_eq_false c14
              clear c14
              replace H := Option.bind_eq_some_iff.mp H
              obtain ⟨t267, A250, H⟩ := H
              replace H : (some t267) = some r := H
              have A25 := Aside0.mk A250
              clear A250
              obtain rfl := Option.some.inj H
              have hcz26_0 : wr.cell? ⟨gb264, 0, none⟩ = some (.int .i64 a0_0) := (blk_cell BK264.out 0).trans rfl
              have hcz26_1 : wr.cell? ⟨gb264, 1, none⟩ = some (.slice A0_1 l0_1.length c0_1) := (blk_cell BK264.out 1).trans rfl
              have hcz26_2 : wr.cell? ⟨gb264, 2, none⟩ = some (.int .i64 a0_2) := (blk_cell BK264.out 2).trans rfl
              have hcz26_3 : wr.cell? ⟨gb264, 3, none⟩ = some (.slice A0_3 l0_3.length c0_3) := (blk_cell BK264.out 3).trans rfl
              have hfz26_0 := blk_frozen BK264.out 0
              have hfz26_1 := blk_frozen BK264.out 1
              have hfz26_2 := blk_frozen BK264.out 2
              have hfz26_3 := blk_frozen BK264.out 3
              go_wp2_with (first | ((with_reducible refine gate_callee (f := 85) rfl ?_); refine goesL_ (some 56) rfl rfl Tryd.func85 (by kernel_rfl) rfl #[.slice A0_3 l0_3.length c0_3] rfl (by (try simp only [List.map_toArray, List.map_cons, List.map_nil]); first | done | rfl | (simp only [List.length_drop, List.length_take]; rfl)) ?_; (with_reducible refine (quillworkref05_May.calls k2 _ _ l0_3 t267 _ ?side1 ?side2 A25.out).mono ?_); (case side1 => repeat (first | exact (Kd.C_below HR0_3.out HB.out) | (with_reducible refine Kd.C_alloc ?_ _) | (with_reducible refine Kd.C_drewN ?_ _) | (with_reducible refine Kd.C_drew ?_))); (case side2 => exact HC0_3.out); rintro e w27 ⟨rfl, hb⟩; refine ⟨_, rfl, ?_⟩; have n0_ := Aside0.mk (blk_below (g := gb264) (o := .cells #[.int .i64 a0_0, .slice A0_1 l0_1.length c0_1, .int .i64 a0_2, .slice A0_3 l0_3.length c0_3] 38 (0, 0)) (by (with_reducible repeat (first | refine blk_drewN ?_ _ | refine blk_drew ?_ | refine blk_alloc ?_ _)); exact BK264.out) hb); have n1_ := Aside0.mk (below_step (by repeat (first | (with_reducible first | exact HB.out | apply below_alloc | apply pw_below_drewN | apply below_drew1 | refine below_set ?_ GE264.out) | exact HB.out)) hb); clear BK264; clear HB; have BK264 := n0_; have HB := n1_; clear n0_ n1_; (try clear hb); (try clear hb2); (try clear hk); (try clear hi)))
              go_ret
              exact ⟨by first | rfl | (simp [errW_none, errW_some] <;> rfl) | (simp [*, errW_none, errW_some] <;> rfl), by repeat (first | (with_reducible first | exact HB.out | apply below_alloc | apply pw_below_drewN | apply below_drew1 | refine below_set ?_ GE264.out) | exact HB.out)⟩

end Go.Proofs.YtgdpknmffohhaaaDoor.Pl

namespace Go.Proofs.YtgdpknmffohhaaaDoor.Pl
open Go.RowKit Go.Proofs.YtgdpknmffohhaaaDoorW.PrintWords Go.Proofs.YtgdpknmffohhaaaDoorW.PrintLast Go.Proofs.YtgdpknmffohhaaaDoorW.PrintMore
attribute [local go_sem] max2_int min2_int max_two min_two max_three min_three max_four min_four   -- for this text's walks alone
set_option linter.unusedVariables false
set_option linter.unusedSimpArgs false

/-! ### quillworkref05_Own: function 55 -/
def quillworkref05_Own.f (l0 : List (S71)) : Option ((List (S71))) := (some (([] : List (S71)) : List (S71))).bind fun y193 => (if y193.length + l0.length < 4398046511104 then (some (y193 ++ l0)) else (none))
set_option maxHeartbeats 8000000 in
set_option maxRecDepth 100000 in
theorem quillworkref05_Own.calls (A0 : Option Addr) (c0 : Nat) (l0 : List (S71)) (r : List (S71)) (w : World) (hr0 : Kd.C k71 w A0 l0.length l0) (hc0 : l0.length ≤ c0) (h : quillworkref05_Own.f l0 = some r) :
    Calls Tryd.prog 55 #[.slice A0 l0.length c0] w fun e w' => ∃ v0_ : Value, e = .returned (v0_) ∧ Kd.R k71 71 w' w.heap.size (fun _ => True) v0_ r ∧ Below w.heap.size w w' := by
  have HR0 := Aside0.mk hr0
  have HC0 := Aside0.mk hc0
  clear hr0 hc0
  have HB := Aside0.mk (Below.refl w.heap.size w)
  have H : ((some (([] : List (S71)) : List (S71))).bind fun y193 => (if y193.length + l0.length < 4398046511104 then (some (y193 ++ l0)) else (none))) = some r := h
  clear h
  obtain ⟨y193, hy193⟩ : ∃ y_ : List (S71), y_ = (([] : List (S71))) := ⟨_, rfl⟩
  replace H : (if y193.length + l0.length < 4398046511104 then (some (y193 ++ l0)) else (none)) = some r := by first | (rw [hy193]; with_reducible exact H) | (have H2_ := (Option.bind_some _ _).symm.trans H; rw [hy193]; with_reducible exact H2_) | (have H2_ := (Option.bind_some _ _).symm.trans H; with_reducible exact H2_) | with_reducible exact H | (rw [hy193]; exact H) | exact H
  have Ny193 := Aside0.mk hy193
  clear hy193
  by_cases c2 : y193.length + l0.length < 4398046511104
  · rw [if_pos c2] at H
    have LMc2 := Aside0.mk c2
    clear c2
    obtain ⟨y196, hy196⟩ : ∃ y_ : List (S71), y_ = (y193 ++ l0) := ⟨_, rfl⟩
    replace H : (some y196) = some r := by first | (rw [hy196]; with_reducible exact H) | (have H2_ := (Option.bind_some _ _).symm.trans H; rw [hy196]; with_reducible exact H2_) | (have H2_ := (Option.bind_some _ _).symm.trans H; with_reducible exact H2_) | with_reducible exact H | (rw [hy196]; exact H) | exact H
    have Ny196 := Aside0.mk hy196
    clear hy196
    obtain rfl := Option.some.inj H
    go_enter Tryd.func55, Tryd.ntmps55
    go_wp2_with (first | ((with_reducible refine gate_dst (N := 3) rfl ?_); refine Kd.R_lit k71 _ 71 ?hg (N := 3) ?hd (xs := ([] : List (S71))) (inner := []) (ok := fun _ => True) (okp := fun _ => True) ?hr ?hp (fun _ hk => hk) trivial (Below.refl _ _) (Nat.le_refl _) (by simp) ?_; (case hd => rfl); (case hg => rfl); (case hr => first | (go_simp; done) | (go_simp; rfl)); (case hp => exact (Reps.none _ _)); intro v194 w3 ho4 hb hg_ hnew_; clear hg_ hnew_; (first | rw [← Ny193.out] at ho4 | (simp only [Int.reduceToNat] at ho4; rw [← Ny193.out] at ho4)); have n0_ := Aside0.mk (Kd.R_lower ho4 (below_size (by repeat (first | (with_reducible first | exact HB.out | apply below_alloc | apply pw_below_drewN | apply below_drew1) | exact HB.out)))); have n1_ := Aside0.mk (below_step (by repeat (first | (with_reducible first | exact HB.out | apply below_alloc | apply pw_below_drewN | apply below_drew1) | exact HB.out)) hb); clear HB; have HO195 := n0_; have HB := n1_; clear n0_ n1_; clear hb ho4) | ((with_reducible refine gate_builtin (b := .append) (xs := #[.tmp 3, .tmp 4]) rfl ?_); at_builtin; refine Kd.R_append_rows k71 (w0 := w) w.heap.size rfl (.tmp 3) (.tmp 4) 36 71 (.agg #[(.int .i32 0), (.int .i64 0), (.string ⟨#[]⟩)]) 32 rfl Tryd.underlying36 info71 rfl (by decide) (by omega) v194 y193 l0 _ _ _ (fun _ => True) (fun _ => False) rfl rfl ?aO ?aR (fun _ _ h => h) (fun _ h => h.elim) ?aF ?aB ?aS ?aL ?_; (case aR => repeat (first | exact (Kd.C_below HR0.out HB.out) | (with_reducible refine Kd.C_alloc ?_ _) | (with_reducible refine Kd.C_drewN ?_ _) | (with_reducible refine Kd.C_drew ?_))); (case aB => exact (by repeat (first | (with_reducible first | exact HB.out | apply below_alloc | apply pw_below_drewN | apply below_drew1) | exact HB.out))); (case aF => exact (fun _ _ => trivial)); (case aO => exact (by (with_reducible repeat (first | apply Kd.R_alloc | apply Kd.R_drewN | apply Kd.R_drew)); exact HO195.out)); (case aS => exact (below_size (by repeat (first | (with_reducible first | exact HB.out | apply below_alloc | apply pw_below_drewN | apply below_drew1) | exact HB.out)))); (case aL => have := LMc2.out; omega); intro v197 w5 ho hb hg hat; rw [← Ny196.out] at ho; have n0_ := Aside0.mk (hb); have n1_ := Aside0.mk (ho); clear HB; clear HO195; have HB := n0_; have HO198 := n1_; clear n0_ n1_; clear ho hb hg hat))
    go_ret
    exact ⟨_, by first | rfl | (simp [errW_none, errW_some] <;> rfl) | (simp [*, errW_none, errW_some] <;> rfl), by (with_reducible repeat (first | apply Kd.R_alloc | apply Kd.R_drewN | apply Kd.R_drew)); exact HO198.out, by repeat (first | (with_reducible first | exact HB.out | apply below_alloc | apply pw_below_drewN | apply below_drew1) | exact HB.out)⟩
  · rw [if_neg c2] at H
    exact absurd H (by simp)

end Go.Proofs.YtgdpknmffohhaaaDoor.Pl

namespace Go.Proofs.YtgdpknmffohhaaaDoor.Pl
open Go.RowKit Go.Proofs.YtgdpknmffohhaaaDoorW.PrintWords Go.Proofs.YtgdpknmffohhaaaDoorW.PrintLast Go.Proofs.YtgdpknmffohhaaaDoorW.PrintMore
attribute [local go_sem] max2_int min2_int max_two min_two max_three min_three max_four min_four   -- for this text's walks alone
set_option linter.unusedVariables false
set_option linter.unusedSimpArgs false

/-! ### quillworkref06_Own: function 26 -/
def quillworkref06_Own.f (a0_0 : Int) (l0_1 : List Int) (a0_2 : Int) (l0_3 : List (S71)) : Option (Int × List Int × Int × (List (S71))) := (some (([] : List Int) : List Int)).bind fun y314 => (if y314.length + l0_1.length < 17592186044416 then ((quillworkref05_Own.f l0_3).bind fun t320 => (some (a0_0, (y314 ++ l0_1), a0_2, t320))) else (none))
def quillworkref06_Own.T1 : Bool × List (List Nat × List Nat) := (true, [([], []), ([0], [0]), ([], []), ([], []), ([3], [3]), ([2, 4], [2, 4]), ([], []), ([6], [6]), ([], []), ([8], [8]), ([9, 5], [9]), ([1, 5, 7, 10], [1, 5, 7, 10]), ([11, 10, 0, 1, 2, 3, 4, 5, 6, 7, 8, 9, 10, 11], [11])])
def quillworkref06_Own.B1 : List Nat := [0, 1, 0, 0, 8, 28, 0, 64, 0, 256, 828, 2047, 4095]
theorem quillworkref06_Own.tab1 : rtab .any (opsOf Tryd.f26 1) = quillworkref06_Own.T1 := by kernel_rfl
theorem quillworkref06_Own.bits1 : waitsOk quillworkref06_Own.T1.2 quillworkref06_Own.B1 = true := by kernel_rfl
set_option maxHeartbeats 8000000 in
set_option maxRecDepth 100000 in
theorem quillworkref06_Own.calls (a0_0 : Int) (A0_1 : Option Addr) (c0_1 : Nat) (l0_1 : List Int) (a0_2 : Int) (A0_3 : Option Addr) (c0_3 : Nat) (l0_3 : List (S71)) (r1 : Int) (r2 : List Int) (r3 : Int) (r4 : List (S71)) (w : World) (hr0_1 : Kd.C (Kd.int .i64) w A0_1 l0_1.length l0_1) (hc0_1 : l0_1.length ≤ c0_1) (hr0_3 : Kd.C k71 w A0_3 l0_3.length l0_3) (hc0_3 : l0_3.length ≤ c0_3) (h : quillworkref06_Own.f a0_0 l0_1 a0_2 l0_3 = some (r1, r2, r3, r4)) :
    Calls Tryd.prog 26 #[.agg #[.int .i64 a0_0, .slice A0_1 l0_1.length c0_1, .int .i64 a0_2, .slice A0_3 l0_3.length c0_3]] w fun e w' => ∃ v1_ v3_ : Value, e = .returned (.agg #[.int .i64 r1, v1_, .int .i64 r3, v3_]) ∧ Kd.R (Kd.int .i64) 3 w' w.heap.size (fun _ => True) v1_ r2 ∧ Kd.R k71 71 w' w.heap.size (fun _ => True) v3_ r4 ∧ Below w.heap.size w w' := by
  have hu38 := Tryd.underlying38
  have HR0_1 := Aside0.mk hr0_1
  have HC0_1 := Aside0.mk hc0_1
  clear hr0_1 hc0_1
  have HR0_3 := Aside0.mk hr0_3
  have HC0_3 := Aside0.mk hc0_3
  clear hr0_3 hc0_3
  have HB := Aside0.mk (Below.refl w.heap.size w)
  have H : ((some (([] : List Int) : List Int)).bind fun y314 => (if y314.length + l0_1.length < 17592186044416 then ((quillworkref05_Own.f l0_3).bind fun t320 => (some (a0_0, (y314 ++ l0_1), a0_2, t320))) else (none))) = some (r1, r2, r3, r4) := h
  clear h
  obtain ⟨y314, hy314⟩ : ∃ y_ : List Int, y_ = (([] : List Int)) := ⟨_, rfl⟩
  replace H : (if y314.length + l0_1.length < 17592186044416 then ((quillworkref05_Own.f l0_3).bind fun t320 => (some (a0_0, (y314 ++ l0_1), a0_2, t320))) else (none)) = some (r1, r2, r3, r4) := by first | (rw [hy314]; with_reducible exact H) | (have H2_ := (Option.bind_some _ _).symm.trans H; rw [hy314]; with_reducible exact H2_) | (have H2_ := (Option.bind_some _ _).symm.trans H; with_reducible exact H2_) | with_reducible exact H | (rw [hy314]; exact H) | exact H
  have Ny314 := Aside0.mk hy314
  clear hy314
  by_cases c2 : y314.length + l0_1.length < 17592186044416
  · rw [if_pos c2] at H
    have LMc2 := Aside0.mk c2
    clear c2
    obtain ⟨y317, hy317⟩ : ∃ y_ : List Int, y_ = (y314 ++ l0_1) := ⟨_, rfl⟩
    replace H : ((quillworkref05_Own.f l0_3).bind fun t320 => (some (a0_0, y317, a0_2, t320))) = some (r1, r2, r3, r4) := by first | (rw [hy317]; with_reducible exact H) | (have H2_ := (Option.bind_some _ _).symm.trans H; rw [hy317]; with_reducible exact H2_) | (have H2_ := (Option.bind_some _ _).symm.trans H; with_reducible exact H2_) | with_reducible exact H | (rw [hy317]; exact H) | exact H
    have Ny317 := Aside0.mk hy317
    clear hy317
    replace H := Option.bind_eq_some_iff.mp H
    obtain ⟨t320, A30, H⟩ := H
    replace H : (some (a0_0, y317, a0_2, t320)) = some (r1, r2, r3, r4) := H
    have A3 := Aside0.mk A30
    clear A30
    simp only [Option.some.injEq, Prod.mk.injEq] at H
    obtain ⟨rfl, rfl, rfl, rfl⟩ := H
    go_enter Tryd.func26, Tryd.ntmps26
    try go_wp2_with (first | ((with_reducible refine gate_dst (N := 1) rfl ?_); refine box_event ?hg (N := 1) ?hd (cs := #[.int .i64 a0_0, .slice A0_1 l0_1.length c0_1, .int .i64 a0_2, .slice A0_3 l0_3.length c0_3]) (t := 38) ?hr ?_; (case hd => rfl); (case hg => rfl); (case hr => first | (go_simp; done) | (go_simp; rfl)); intro gb312 hg w4 hbox hb; have n0_ := Aside0.mk (below_step (by repeat (first | (with_reducible first | exact HB.out | apply below_alloc | apply pw_below_drewN | apply below_drew1) | exact HB.out)) hb); have n1_ := Aside0.mk (hbox); have n2_ := Aside0.mk ((by rw [hg]; exact (below_size (by repeat (first | (with_reducible first | exact HB.out | apply below_alloc | apply pw_below_drewN | apply below_drew1) | exact HB.out))) : w.heap.size ≤ gb312)); have n3_ := Aside0.mk ((by rw [hg]; exact (below_size (by repeat (first | (with_reducible first | exact HB.out | apply below_alloc | apply pw_below_drewN | apply below_drew1) | exact HB.out))) : w.heap.size ≤ gb312)); clear HB; have HB := n0_; have BK312 := n1_; have GW312 := n2_; have GE312 := n3_; clear n0_ n1_ n2_ n3_; clear hb hbox hg) | ((with_reducible refine gate_dst (N := 2) rfl ?_); refine box_event ?hg (N := 2) ?hd (cs := #[.int .i64 0, .slice none 0 0, .int .i64 0, .slice none 0 0]) (t := 38) ?hr ?_; (case hd => rfl); (case hg => rfl); (case hr => first | (go_simp; done) | (go_simp; rfl)); intro gb313 hg w5 hbox hb; have n0_ := Aside0.mk (blk_below (g := gb312) (o := .cells #[.int .i64 a0_0, .slice A0_1 l0_1.length c0_1, .int .i64 a0_2, .slice A0_3 l0_3.length c0_3] 38 (0, 0)) (by (with_reducible repeat (first | refine blk_drewN ?_ _ | refine blk_drew ?_ | refine blk_alloc ?_ _)); exact BK312.out) hb); have n1_ := Aside0.mk (below_step (by repeat (first | (with_reducible first | exact HB.out | apply below_alloc | apply pw_below_drewN | apply below_drew1 | refine below_set ?_ GE312.out) | exact HB.out)) hb); have n2_ := Aside0.mk (hbox); have n3_ := Aside0.mk ((by rw [hg]; exact (below_size (by repeat (first | (with_reducible first | exact HB.out | apply below_alloc | apply pw_below_drewN | apply below_drew1 | refine below_set ?_ GE312.out) | exact HB.out))) : w.heap.size ≤ gb313)); have n4_ := Aside0.mk ((by rw [hg]; exact (below_size (by repeat (first | (with_reducible first | exact HB.out | apply below_alloc | apply pw_below_drewN | apply below_drew1 | refine below_set ?_ GE312.out) | exact HB.out))) : w.heap.size ≤ gb313)); have n5_ := Aside0.mk ((by rw [hg]; exact Nat.ne_of_lt (blk_lt (g := gb312) (o := .cells #[.int .i64 a0_0, .slice A0_1 l0_1.length c0_1, .int .i64 a0_2, .slice A0_3 l0_3.length c0_3] 38 (0, 0)) (by (with_reducible repeat (first | refine blk_drewN ?_ _ | refine blk_drew ?_ | refine blk_alloc ?_ _)); exact BK312.out)) : gb312 ≠ gb313)); have n6_ := Aside0.mk ((by rw [hg]; exact Nat.ne_of_gt (blk_lt (g := gb312) (o := .cells #[.int .i64 a0_0, .slice A0_1 l0_1.length c0_1, .int .i64 a0_2, .slice A0_3 l0_3.length c0_3] 38 (0, 0)) (by (with_reducible repeat (first | refine blk_drewN ?_ _ | refine blk_drew ?_ | refine blk_alloc ?_ _)); exact BK312.out)) : gb313 ≠ gb312)); clear BK312; clear HB; have BK312 := n0_; have HB := n1_; have BK313 := n2_; have GW313 := n3_; have GE313 := n4_; have NB312_313 := n5_; have NB313_312 := n6_; clear n0_ n1_ n2_ n3_ n4_ n5_ n6_; clear hb hbox hg))
    have n0_ := Aside0.mk (blk_drew BK312.out)
    have n1_ := Aside0.mk (blk_drew BK313.out)
    have n2_ := Aside0.mk (below_drew1 HB.out)
    clear BK312
    clear BK313
    clear HB
    have BK312 := n0_
    have BK313 := n1_
    have HB := n2_
    clear n0_ n1_ n2_
    refine start_ (n := 13) (S := fun w' => w'.cell? ⟨gb312, 0, none⟩ = some (.int .i64 a0_0) ∧ w'.cell? ⟨gb312, 1, none⟩ = some (.slice A0_1 l0_1.length c0_1) ∧ w'.cell? ⟨gb312, 2, none⟩ = some (.int .i64 a0_2) ∧ w'.cell? ⟨gb312, 3, none⟩ = some (.slice A0_3 l0_3.length c0_3)) (ds := []) #[false, false, false, false, false, false, false, false, false, false, false, false, false] (by kernel_rfl) rfl rfl ⟨(blk_cell BK312.out 0).trans rfl, (blk_cell BK312.out 1).trans rfl, (blk_cell BK312.out 2).trans rfl, (blk_cell BK312.out 3).trans rfl⟩ (fun hHeld => ?_); refine with_tabW quillworkref06_Own.tab1 quillworkref06_Own.bits1 (fun HT_ HW_ => ?_)
    generalize w5.drew = w6 at BK312 BK313 HB hHeld ⊢
    refine pure_ (i := 0) (N := some 3) (v := ?_) (a' := ?_) #[true, false, false, false, false, false, false, false, false, false, false, false, false] rfl rfl (any_of HT_.out (by kernel_rfl)) (fun _ _ _ h => h) (Or.inl ⟨by rfl, ?_⟩) ?_ ?_
    rotate_left
    · intro w'
      go_simp
      with_reducible rfl
    rotate_left
    · simp only [Act.put, List.setIfInBounds_toArray, List.set_cons_zero, List.set_cons_succ, i64_w, i32_w]
      rfl
    refine pure_ (i := 3) (N := some 6) (v := ?_) (a' := ?_) #[true, false, false, true, false, false, false, false, false, false, false, false, false] rfl rfl (any_of HT_.out (by kernel_rfl)) (fun _ _ _ h => h) (Or.inl ⟨by rfl, ?_⟩) ?_ ?_
    rotate_left
    · intro w'
      go_simp
      with_reducible rfl
    rotate_left
    · simp only [Act.put, List.setIfInBounds_toArray, List.set_cons_zero, List.set_cons_succ, i64_w, i32_w]
      rfl
    refine pure_ (i := 6) (N := some 9) (v := ?_) (a' := ?_) #[true, false, false, true, false, false, true, false, false, false, false, false, false] rfl rfl (any_of HT_.out (by kernel_rfl)) (fun _ _ _ h => h) (Or.inl ⟨by rfl, ?_⟩) ?_ ?_
    rotate_left
    · intro w'
      go_simp
      with_reducible rfl
    rotate_left
    · simp only [Act.put, List.setIfInBounds_toArray, List.set_cons_zero, List.set_cons_succ, i64_w, i32_w]
      rfl
    refine pure_ (i := 8) (N := some 11) (v := ?_) (a' := ?_) #[true, false, false, true, false, false, true, false, true, false, false, false, false] rfl rfl (any_of HT_.out (by kernel_rfl)) (fun _ _ _ h => h) (Or.inl ⟨by rfl, ?_⟩) ?_ ?_
    rotate_left
    · intro w'
      go_simp
      with_reducible rfl
    rotate_left
    · simp only [Act.put, List.setIfInBounds_toArray, List.set_cons_zero, List.set_cons_succ, i64_w, i32_w]
      rfl
    refine take_ (i := 1) (N := some 4) (v := ?_) (a' := ?_) #[true, true, false, true, false, false, true, false, true, false, false, false, false] rfl rfl (take_ofW HT_.out HW_.out (by kernel_rfl)) (fun _ _ _ h => h) (Or.inl ⟨by rfl, ?_⟩) hHeld ?_ ?_
    rotate_left
    · rintro w' ⟨s0, s1, s2, s3⟩
      go_simp
      with_reducible rfl
    rotate_left
    · simp only [Act.put, List.setIfInBounds_toArray, List.set_cons_zero, List.set_cons_succ, i64_w, i32_w]
      rfl
    refine take_ (i := 4) (N := some 7) (v := ?_) (a' := ?_) #[true, true, false, true, true, false, true, false, true, false, false, false, false] rfl rfl (take_ofW HT_.out HW_.out (by kernel_rfl)) (fun _ _ _ h => h) (Or.inl ⟨by rfl, ?_⟩) hHeld ?_ ?_
    rotate_left
    · rintro w' ⟨s0, s1, s2, s3⟩
      go_simp
      with_reducible rfl
    rotate_left
    · simp only [Act.put, List.setIfInBounds_toArray, List.set_cons_zero, List.set_cons_succ, i64_w, i32_w]
      rfl
    refine take_ (i := 7) (N := some 10) (v := ?_) (a' := ?_) #[true, true, false, true, true, false, true, true, true, false, false, false, false] rfl rfl (take_ofW HT_.out HW_.out (by kernel_rfl)) (fun _ _ _ h => h) (Or.inl ⟨by rfl, ?_⟩) hHeld ?_ ?_
    rotate_left
    · rintro w' ⟨s0, s1, s2, s3⟩
      go_simp
      with_reducible rfl
    rotate_left
    · simp only [Act.put, List.setIfInBounds_toArray, List.set_cons_zero, List.set_cons_succ, i64_w, i32_w]
      rfl
    refine take_ (i := 9) (N := some 12) (v := ?_) (a' := ?_) #[true, true, false, true, true, false, true, true, true, true, false, false, false] rfl rfl (take_ofW HT_.out HW_.out (by kernel_rfl)) (fun _ _ _ h => h) (Or.inl ⟨by rfl, ?_⟩) hHeld ?_ ?_
    rotate_left
    · rintro w' ⟨s0, s1, s2, s3⟩
      go_simp
      with_reducible rfl
    rotate_left
    · simp only [Act.put, List.setIfInBounds_toArray, List.set_cons_zero, List.set_cons_succ, i64_w, i32_w]
      rfl
    refine one_ (i := 2) (N := some 5) #[true, true, true, true, true, false, true, true, true, true, false, false, false] rfl rfl (one_of HT_.out (by kernel_rfl)) (by decide) (fun K hK => ?_)
    refine Kd.R_lit_step (Kd.int .i64) _ 3 ?hg (N := 5) ?hd (xs := ([] : List Int)) (inner := []) (ok := fun _ => True) (okp := fun _ => True) ?hr ?hp (fun _ hk => hk) trivial (Below.refl _ _) (Nat.le_refl _) (by simp) ?_; (case hd => rfl); (case hg => rfl); (case hr => first | (go_simp; done) | (go_simp; rfl)); (case hp => exact (Reps.none _ _))
    intro v315 w7 ho8 hb hg_ hnew_
    clear hg_ hnew_
    (first | rw [← Ny314.out] at ho8 | (simp only [Int.reduceToNat] at ho8; rw [← Ny314.out] at ho8))
    have n0_ := Aside0.mk (Kd.R_lower ho8 (below_size (by repeat (first | (with_reducible first | exact HB.out | apply below_alloc | apply pw_below_drewN | apply below_drew1 | refine below_set ?_ GE312.out | refine below_set ?_ GE313.out) | exact HB.out))))
    have n1_ := Aside0.mk (blk_below (g := gb312) (o := .cells #[.int .i64 a0_0, .slice A0_1 l0_1.length c0_1, .int .i64 a0_2, .slice A0_3 l0_3.length c0_3] 38 (0, 0)) (by (with_reducible repeat (first | refine blk_drewN ?_ _ | refine blk_drew ?_ | refine blk_alloc ?_ _)); exact BK312.out) hb)
    have n2_ := Aside0.mk (blk_below (g := gb313) (o := .cells #[.int .i64 0, .slice none 0 0, .int .i64 0, .slice none 0 0] 38 (0, 0)) (by (with_reducible repeat (first | refine blk_drewN ?_ _ | refine blk_drew ?_ | refine blk_alloc ?_ _)); exact BK313.out) hb)
    have n3_ := Aside0.mk (below_step (by repeat (first | (with_reducible first | exact HB.out | apply below_alloc | apply pw_below_drewN | apply below_drew1 | refine below_set ?_ GE312.out | refine below_set ?_ GE313.out) | exact HB.out)) hb)
    clear BK312
    clear BK313
    clear HB
    have HO316 := n0_
    have BK312 := n1_
    have BK313 := n2_
    have HB := n3_
    clear n0_ n1_ n2_ n3_
    clear hb ho8
    refine hK.out _ _ ⟨(blk_cell BK312.out 0).trans rfl, (blk_cell BK312.out 1).trans rfl, (blk_cell BK312.out 2).trans rfl, (blk_cell BK312.out 3).trans rfl⟩ (fun hHeld => ?_)
    clear hK K
    refine norm_ (a' := ?_) ?_ ?_
    rotate_left
    · show Act.put _ (some 5) _ = _
      simp only [Act.put, List.setIfInBounds_toArray, List.set_cons_zero, List.set_cons_succ, i64_w, i32_w]
      rfl
    refine one_ (i := 5) (N := some 8) #[true, true, true, true, true, true, true, true, true, true, false, false, false] rfl rfl (one_of HT_.out (by kernel_rfl)) (by decide) (fun K hK => ?_)
    refine Kd.R_append_rows_step (Kd.int .i64) (w0 := w) w.heap.size (by rfl) (.tmp 5) (.tmp 7) 35 3 (.int .i64 0) 8 rfl Tryd.underlying35 info3 rfl (by decide) (by omega) v315 y314 l0_1 _ _ _ (fun _ => True) (fun _ => False) rfl rfl ?aO ?aR (fun _ _ h => h) (fun _ h => h.elim) ?aF ?aB ?aS ?aL ?_
    (case aR => repeat (first | exact (Kd.C_below HR0_1.out HB.out) | (with_reducible refine Kd.C_alloc ?_ _) | (with_reducible refine Kd.C_drewN ?_ _) | (with_reducible refine Kd.C_drew ?_)))
    (case aB => exact (by repeat (first | (with_reducible first | exact HB.out | apply below_alloc | apply pw_below_drewN | apply below_drew1 | refine below_set ?_ GE312.out | refine below_set ?_ GE313.out) | exact HB.out)))
    (case aF => exact (fun _ _ => trivial))
    (case aO => exact (by (with_reducible repeat (first | apply Kd.R_alloc | apply Kd.R_drewN | apply Kd.R_drew)); exact HO316.out))
    (case aS => exact (below_size (by repeat (first | (with_reducible first | exact HB.out | apply below_alloc | apply pw_below_drewN | apply below_drew1 | refine below_set ?_ GE312.out | refine below_set ?_ GE313.out) | exact HB.out))))
    (case aL => have := LMc2.out; omega)
    intro v318 w9 ho hb hg hat
    rw [← Ny317.out] at ho
    have n0_ := Aside0.mk (blk_grown (g := gb312) (o := .cells #[.int .i64 a0_0, .slice A0_1 l0_1.length c0_1, .int .i64 a0_2, .slice A0_3 l0_3.length c0_3] 38 (0, 0)) (by (with_reducible repeat (first | refine blk_drewN ?_ _ | refine blk_drew ?_ | refine blk_alloc ?_ _)); exact BK312.out) hg (Kd.R_ne HO316.out BK312.out (by decide)))
    have n1_ := Aside0.mk (blk_grown (g := gb313) (o := .cells #[.int .i64 0, .slice none 0 0, .int .i64 0, .slice none 0 0] 38 (0, 0)) (by (with_reducible repeat (first | refine blk_drewN ?_ _ | refine blk_drew ?_ | refine blk_alloc ?_ _)); exact BK313.out) hg (Kd.R_ne HO316.out BK313.out (by decide)))
    have n2_ := Aside0.mk (hb)
    have n3_ := Aside0.mk (ho)
    clear BK312
    clear BK313
    clear HB
    clear HO316
    have BK312 := n0_
    have BK313 := n1_
    have HB := n2_
    have HO319 := n3_
    clear n0_ n1_ n2_ n3_
    clear ho hb hg hat
    refine hK.out _ _ ⟨(blk_cell BK312.out 0).trans rfl, (blk_cell BK312.out 1).trans rfl, (blk_cell BK312.out 2).trans rfl, (blk_cell BK312.out 3).trans rfl⟩ (fun hHeld => ?_)
    clear hK K
    refine norm_ (a' := ?_) ?_ ?_
    rotate_left
    · show Act.put _ (some 8) _ = _
      simp only [Act.put, List.setIfInBounds_toArray, List.set_cons_zero, List.set_cons_succ, i64_w, i32_w]
      rfl
    refine one_ (i := 10) (N := some 13) #[true, true, true, true, true, true, true, true, true, true, true, false, false] rfl rfl (one_of HT_.out (by kernel_rfl)) (by decide) (fun K hK => ?_)
    refine goes_ Tryd.func55 (by kernel_rfl) rfl #[.slice A0_3 l0_3.length c0_3] (by rfl) rfl rfl (by (try simp only [List.map_toArray, List.map_cons, List.map_nil]); first | done | rfl | (simp only [List.length_drop, List.length_take]; rfl)) ?_
    with_reducible refine (quillworkref05_Own.calls _ _ l0_3 t320 _ ?side1 ?side2 A3.out).mono ?_
    (case side1 => repeat (first | exact (Kd.C_below HR0_3.out HB.out) | (with_reducible refine Kd.C_alloc ?_ _) | (with_reducible refine Kd.C_drewN ?_ _) | (with_reducible refine Kd.C_drew ?_)))
    (case side2 => exact HC0_3.out)
    rintro e w10 ⟨v321, rfl, ho0, hb⟩
    refine ⟨_, rfl, ?_⟩
    have n0_ := Aside0.mk (Kd.R_below (by (with_reducible repeat (first | apply Kd.R_alloc | apply Kd.R_drewN | apply Kd.R_drew)); exact HO319.out) hb)
    have n1_ := Aside0.mk (Kd.R_lower ho0 (below_size (by repeat (first | (with_reducible first | exact HB.out | apply below_alloc | apply pw_below_drewN | apply below_drew1 | refine below_set ?_ GE312.out | refine below_set ?_ GE313.out) | exact HB.out))))
    have n2_ := Aside0.mk (blk_below (g := gb312) (o := .cells #[.int .i64 a0_0, .slice A0_1 l0_1.length c0_1, .int .i64 a0_2, .slice A0_3 l0_3.length c0_3] 38 (0, 0)) (by (with_reducible repeat (first | refine blk_drewN ?_ _ | refine blk_drew ?_ | refine blk_alloc ?_ _)); exact BK312.out) hb)
    have n3_ := Aside0.mk (blk_below (g := gb313) (o := .cells #[.int .i64 0, .slice none 0 0, .int .i64 0, .slice none 0 0] 38 (0, 0)) (by (with_reducible repeat (first | refine blk_drewN ?_ _ | refine blk_drew ?_ | refine blk_alloc ?_ _)); exact BK313.out) hb)
    have n4_ := Aside0.mk (below_step (by repeat (first | (with_reducible first | exact HB.out | apply below_alloc | apply pw_below_drewN | apply below_drew1 | refine below_set ?_ GE312.out | refine below_set ?_ GE313.out) | exact HB.out)) hb)
    clear HO319
    clear BK312
    clear BK313
    clear HB
    have HO319 := n0_
    have HO322 := n1_
    have BK312 := n2_
    have BK313 := n3_
    have HB := n4_
    clear n0_ n1_ n2_ n3_ n4_
    (try clear hb)
    (try clear hb2)
    (try clear hk)
    (try clear hi)
    (try clear ho0)
    obtain ⟨Ao11, co11, eo11⟩ := Kd.R_slice HO322.out
    (first | subst eo11 | (injection eo11 with f1_ f2_ f3_; have f4_ := f1_.symm; have f5_ := f3_.symm; clear f1_ f2_ f3_; subst f4_; subst f5_))
    obtain ⟨Ao12, co12, eo12⟩ := Kd.R_slice HO319.out
    (first | subst eo12 | (injection eo12 with f1_ f2_ f3_; have f4_ := f1_.symm; have f5_ := f3_.symm; clear f1_ f2_ f3_; subst f4_; subst f5_))
    refine hK.out _ _ ⟨(blk_cell BK312.out 0).trans rfl, (blk_cell BK312.out 1).trans rfl, (blk_cell BK312.out 2).trans rfl, (blk_cell BK312.out 3).trans rfl⟩ (fun hHeld => ?_)
    clear hK K
    refine norm_ (a' := ?_) ?_ ?_
    rotate_left
    · show Act.put _ (some 13) _ = _
      simp only [Act.put, List.setIfInBounds_toArray, List.set_cons_zero, List.set_cons_succ, i64_w, i32_w]
      rfl
    refine pure_ (i := 11) (N := some 14) (v := ?_) (a' := ?_) #[true, true, true, true, true, true, true, true, true, true, true, true, false] rfl rfl (any_of HT_.out (by kernel_rfl)) (fun _ _ _ h => h) (Or.inl ⟨by rfl, ?_⟩) ?_ ?_
    rotate_left
    · intro w'
      go_simp
      with_reducible rfl
    rotate_left
    · simp only [Act.put, List.setIfInBounds_toArray, List.set_cons_zero, List.set_cons_succ, i64_w, i32_w]
      rfl
    refine one_ (i := 12) (N := none) #[true, true, true, true, true, true, true, true, true, true, true, true, true] rfl rfl (one_of HT_.out (by kernel_rfl)) (by decide) (fun K hK => ?_)
    have hs13 : w10.cell? ⟨gb313, 0, none⟩ = some (.int .i64 0) := (blk_cell BK313.out 0).trans rfl
    have hfs13 := blk_frozen BK313.out 0
    have hns13_0 := NB312_313.out
    have hms13_0 := NB313_312.out
    have hs14 : w10.cell? ⟨gb313, 1, none⟩ = some (.slice none 0 0) := (blk_cell BK313.out 1).trans rfl
    have hfs14 := blk_frozen BK313.out 1
    have hns14_0 := NB312_313.out
    have hms14_0 := NB313_312.out
    have hs15 : w10.cell? ⟨gb313, 2, none⟩ = some (.int .i64 0) := (blk_cell BK313.out 2).trans rfl
    have hfs15 := blk_frozen BK313.out 2
    have hns15_0 := NB312_313.out
    have hms15_0 := NB313_312.out
    have hs16 : w10.cell? ⟨gb313, 3, none⟩ = some (.slice none 0 0) := (blk_cell BK313.out 3).trans rfl
    have hfs16 := blk_frozen BK313.out 3
    have hns16_0 := NB312_313.out
    have hms16_0 := NB313_312.out
    refine skip_ (w1 := ?_) (by rfl) rfl ?_ ?_
    rotate_left
    · go_simp
      rfl
    refine hK.out _ _ ⟨((cell_far (p := ⟨gb313, _, none⟩) NB312_313.out _).trans (((cell_far (p := ⟨gb313, _, none⟩) NB312_313.out _).trans (((cell_far (p := ⟨gb313, _, none⟩) NB312_313.out _).trans (((cell_far (p := ⟨gb313, _, none⟩) NB312_313.out _).trans (hHeld.1)))))))), ((cell_far (p := ⟨gb313, _, none⟩) NB312_313.out _).trans (((cell_far (p := ⟨gb313, _, none⟩) NB312_313.out _).trans (((cell_far (p := ⟨gb313, _, none⟩) NB312_313.out _).trans (((cell_far (p := ⟨gb313, _, none⟩) NB312_313.out _).trans (hHeld.2.1)))))))), ((cell_far (p := ⟨gb313, _, none⟩) NB312_313.out _).trans (((cell_far (p := ⟨gb313, _, none⟩) NB312_313.out _).trans (((cell_far (p := ⟨gb313, _, none⟩) NB312_313.out _).trans (((cell_far (p := ⟨gb313, _, none⟩) NB312_313.out _).trans (hHeld.2.2.1)))))))), ((cell_far (p := ⟨gb313, _, none⟩) NB312_313.out _).trans (((cell_far (p := ⟨gb313, _, none⟩) NB312_313.out _).trans (((cell_far (p := ⟨gb313, _, none⟩) NB312_313.out _).trans (((cell_far (p := ⟨gb313, _, none⟩) NB312_313.out _).trans (hHeld.2.2.2))))))))⟩ (fun hHeld => ?_)
    clear hK K
    refine done_ (done_of HT_.out (by kernel_rfl)) ?_
    try go_wp2
    refine bodyPost_ret (results_cell_row rfl _ _ gb313 38 #[.int .i64 a0_0, .slice Ao12 y317.length co12, .int .i64 a0_2, .slice Ao11 t320.length co11] (0, 0) _ rfl (by (with_reducible repeat (first | refine blk_drewN ?_ _ | refine blk_drew ?_ | refine blk_alloc ?_ _)); refine blk_put (cs := #[.int .i64 a0_0, .slice Ao12 y317.length co12, .int .i64 a0_2, .slice none 0 0]) ?_ 3 _ rfl; (with_reducible repeat (first | refine blk_drewN ?_ _ | refine blk_drew ?_ | refine blk_alloc ?_ _)); refine blk_put (cs := #[.int .i64 a0_0, .slice Ao12 y317.length co12, .int .i64 0, .slice none 0 0]) ?_ 2 _ rfl; (with_reducible repeat (first | refine blk_drewN ?_ _ | refine blk_drew ?_ | refine blk_alloc ?_ _)); refine blk_put (cs := #[.int .i64 a0_0, .slice none 0 0, .int .i64 0, .slice none 0 0]) ?_ 1 _ rfl; (with_reducible repeat (first | refine blk_drewN ?_ _ | refine blk_drew ?_ | refine blk_alloc ?_ _)); refine blk_put (cs := #[.int .i64 0, .slice none 0 0, .int .i64 0, .slice none 0 0]) ?_ 0 _ rfl; (with_reducible repeat (first | refine blk_drewN ?_ _ | refine blk_drew ?_ | refine blk_alloc ?_ _)); exact BK313.out) Tryd.underlying38 rfl (by kernel_rfl)) rfl ?_
    exact ⟨_, _, by first | rfl | (simp [errW_none, errW_some] <;> rfl) | (simp [*, errW_none, errW_some] <;> rfl), by (with_reducible repeat (first | apply Kd.R_alloc | apply Kd.R_drewN | apply Kd.R_drew)); exact Kd.R_mono (Kd.R_far (p := ⟨gb313, 3, none⟩) (Kd.R_far (p := ⟨gb313, 2, none⟩) (Kd.R_far (p := ⟨gb313, 1, none⟩) (Kd.R_far (p := ⟨gb313, 0, none⟩) (Kd.R_types HO319.out BK313.out (by decide)) (fun _ hk => hk.2) (.int .i64 a0_0)) (fun _ hk => hk.2) (.slice Ao12 y317.length co12)) (fun _ hk => hk.2) (.int .i64 a0_2)) (fun _ hk => hk.2) (.slice Ao11 t320.length co11)) (fun _ hk => trivial), by (with_reducible repeat (first | apply Kd.R_alloc | apply Kd.R_drewN | apply Kd.R_drew)); exact Kd.R_mono (Kd.R_far (p := ⟨gb313, 3, none⟩) (Kd.R_far (p := ⟨gb313, 2, none⟩) (Kd.R_far (p := ⟨gb313, 1, none⟩) (Kd.R_far (p := ⟨gb313, 0, none⟩) (Kd.R_types HO322.out BK313.out (by decide)) (fun _ hk => hk.2) (.int .i64 a0_0)) (fun _ hk => hk.2) (.slice Ao12 y317.length co12)) (fun _ hk => hk.2) (.int .i64 a0_2)) (fun _ hk => hk.2) (.slice Ao11 t320.length co11)) (fun _ hk => trivial), by repeat (first | (with_reducible first | exact HB.out | apply below_alloc | apply pw_below_drewN | apply below_drew1 | refine below_set ?_ GE312.out | refine below_set ?_ GE313.out) | exact HB.out)⟩
  · rw [if_neg c2] at H
    exact absurd H (by simp)

end Go.Proofs.YtgdpknmffohhaaaDoor.Pl

/- What may be a line, by the reference: the program's answer. -/
namespace Go.Proofs.YtgdpknmffohhaaaDoor.Pl
open Go.RowKit Go.Lib Go.Proofs.YtgdpknmffohhaaaDoorW.PrintWords Go.Proofs.YtgdpknmffohhaaaDoorW.PrintLast Go.Proofs.YtgdpknmffohhaaaDoorW.PrintMore
set_option linter.unusedVariables false
theorem ref_target_ (s : ByteArray) (hs : s.size ≤ 70368744177664) : Ev (fun k => quillworkref03_Target.f k s) (target_ s) := by
  unfold quillworkref03_Target.f quillworkref03_Value.f target_
  have hT := ref_script_ s hs
  have hF : Ev (fun k => quillworkref03_Target.j0 k s true) false := by
    refine Ev.step (f := fun _ => some false) (fun k => ?_) (Ev.now _)
    simp only [quillworkref03_Target.j0]
    rfl
  refine Ev.congr (f := fun k => if isValue_ s = true then _ else _) (fun k => by rw [if_pos hs, Option.bind_some]) ?_
  cases isValue_ s with
  | false => exact Ev.congr (fun k => if_neg (by decide)) hF
  | true =>
    refine Ev.congr (fun k => if_pos rfl) ?_
    rw [Bool.true_and]
    by_cases h0 : s.toList = []
    · have hz := empty_size_ s h0
      refine Ev.congr (fun k => if_pos h0) ?_
      have he : ends_ s = false := by unfold ends_; rw [dif_neg (by omega)]
      rw [he, Bool.false_and]
      exact hF
    · have hz : 0 < s.size := by
        rcases Nat.eq_zero_or_pos s.size with h | h
        · exact absurd (size_empty_ s h) h0
        · exact h
      have he : ends_ s = (decide (¬ bt s 0 = 32) && decide (¬ bt s ((s.size : Int) - 1) = 32)) := by
        unfold ends_
        rw [dif_pos hz]
        have h1 := bt_at s 0 hz
        have h2 := bt_at s ((s.size : Int) - 1) (by omega)
        have e2 : ((s.size : Int) - 1).toNat = s.size - 1 := by omega
        rw [← h1, ← h2]
        simp only [e2, Int.toNat_zero]
      have hw : wrap64 ((s.size : Int) - 1) = (s.size : Int) - 1 := w64s_ _ (by omega)
      rw [he]
      refine Ev.congr (fun k => if_neg h0) ?_
      refine Ev.congr (fun k => if_pos (by omega)) ?_
      by_cases h1 : bt s 0 = 32
      · rw [decide_eq_false (fun h => h h1), Bool.false_and, Bool.false_and]
        exact Ev.congr (fun k => if_pos h1) hF
      · rw [decide_eq_true h1, Bool.true_and, hw]
        refine Ev.congr (fun k => if_neg h1) ?_
        refine Ev.congr (fun k => if_pos (by omega)) ?_
        refine Ev.congr (fun k => if_pos (by omega)) ?_
        by_cases h2 : bt s ((s.size : Int) - 1) = 32
        · rw [decide_eq_false (fun h => h h2), Bool.false_and, beq_iff_eq.2 h2]
          exact hF
        · rw [decide_eq_true h2, Bool.true_and, beq_eq_false_iff_ne.2 h2]
          exact hT
theorem ref_link_ (s : ByteArray) (hs : s.size ≤ 70368744177664) : Ev (fun k => quillworkref05_Link.f k s) (link_ s) := by
  unfold quillworkref05_Link.f link_
  by_cases h0 : s.toList = []
  · rw [h0]
    exact Ev.congr (fun k => if_pos rfl) (Ev.now _)
  · have : s.toList.isEmpty = false := by
      cases h : s.toList with
      | nil => exact absurd h h0
      | cons a l => rfl
    rw [this, Bool.false_or]
    exact Ev.congr (fun k => if_neg h0) (Ev.bind (ref_target_ s hs) (Ev.now _))
theorem ref_mayC_loop_ (l : List S71) (hl : l.length ≤ 1000000000) (hok : ∀ c ∈ l, c.f2.size ≤ 70368744177664) : ∀ (m i : Nat), l.length - i = m → i ≤ l.length → Ev (fun k => quillworkref05_May.l0 k l (i : Int)) (!((l.drop i).any bad_)) := by
  intro m
  induction m with
  | zero =>
    intro i hm hi
    refine Ev.step (f := fun _ => some _) (fun k => ?_) (Ev.now _)
    simp only [quillworkref05_May.l0]
    rw [if_neg (by omega), List.drop_eq_nil_of_le (by omega)]
    rfl
  | succ m ih =>
    intro i hm hi
    have e3 : wrap64 ((i : Int) + 1) = ((i + 1 : Nat) : Int) := by rw [w64s_ _ (by omega)]; omega
    have hil : i < l.length := by omega
    have ihh := ih (i + 1) (by omega) (by omega)
    have hr := rdc_ hil
    have hL := ref_link_ (l[i]'hil).f2 (hok _ (List.getElem_mem hil))
    rw [List.drop_eq_getElem_cons hil, List.any_cons]
    generalize l[i]'hil = c at hr hL
    have hM : Ev (fun k => quillworkref01_May.f k c.f0) (mayR_ c.f0) := Ev.of (fun k => quillworkref01_May.mono c.f0 k) (mayref_is_ c.f0)
    have hrest : Ev (fun k => (if c.f1 < 0 then some false else (if c.f1 > 15 then some false else ((quillworkref05_Link.f k c.f2).bind fun t => (if t = true then quillworkref05_May.l0 k l (wrap64 ((i : Int) + 1)) else some false))))) (!((decide (c.f1 < 0) || (decide (15 < c.f1) || !(link_ c.f2))) || (l.drop (i + 1)).any bad_)) := by
      by_cases h1 : c.f1 < 0
      · rw [decide_eq_true h1]
        exact Ev.congr (fun k => if_pos h1) (Ev.now _)
      · rw [decide_eq_false h1, Bool.false_or]
        refine Ev.congr (fun k => if_neg h1) ?_
        by_cases h2 : c.f1 > 15
        · rw [decide_eq_true h2]
          exact Ev.congr (fun k => if_pos h2) (Ev.now _)
        · rw [decide_eq_false h2, Bool.false_or]
          refine Ev.congr (fun k => if_neg h2) ?_
          refine Ev.bind hL ?_
          cases link_ c.f2 with
          | false => exact Ev.congr (fun k => if_neg (by decide)) (Ev.now _)
          | true =>
            rw [e3]
            exact Ev.congr (fun k => if_pos rfl) ihh
    have hb : bad_ c = ((!(mayR_ c.f0) && c.f0 != 10) || (decide (c.f1 < 0) || (decide (15 < c.f1) || !(link_ c.f2)))) := rfl
    rw [hb]
    refine Ev.step (f := fun k => if c.f0 = 10 then _ else _) (fun k => by
      simp only [quillworkref05_May.l0]
      rw [if_pos (by omega), if_pos (by omega), hr]) ?_
    by_cases h10 : c.f0 = 10
    · rw [show (c.f0 != 10) = false by simp [h10], Bool.and_false, Bool.false_or]
      exact Ev.congr (fun k => if_pos h10) hrest
    · rw [show (c.f0 != 10) = true by simp [h10], Bool.and_true]
      refine Ev.congr (fun k => if_neg h10) ?_
      refine Ev.bind hM ?_
      cases mayR_ c.f0 with
      | false => exact Ev.congr (fun k => if_neg (by decide)) (Ev.now _)
      | true =>
        rw [Bool.not_true, Bool.false_or]
        exact Ev.congr (fun k => if_pos rfl) hrest
theorem ref_mayK_loop_ (x : Ln) (hz : Sz x) (hl : x.ls.length ≤ 6) : ∀ (m i : Nat), x.ls.length - i = m → i ≤ x.ls.length → Ev (fun k => quillworkref06_May.l0 k (i : Int) x.q x.ls x.k x.cs) ((!((x.ls.drop i).any kindBad_) && decide (i = x.ls.length ∨ x.k = 0)) && !(x.cs.any bad_)) := by
  have hC := ref_mayC_loop_ x.cs (by have := hz.2.1; omega) (fun c hc => by have := hz.2.2 c hc; omega) _ 0 rfl (Nat.zero_le _)
  intro m
  induction m with
  | zero =>
    intro i hm hi
    have hi' : i = x.ls.length := by omega
    rw [List.drop_eq_nil_of_le (by omega), decide_eq_true (.inl hi')]
    refine Ev.step (f := fun k => (quillworkref05_May.f k x.cs).bind fun t => some t) (fun k => ?_) (Ev.bind hC (Ev.now _))
    simp only [quillworkref06_May.l0]
    rw [if_neg (by omega)]
  | succ m ih =>
    intro i hm hi
    have e3 : wrap64 ((i : Int) + 1) = ((i + 1 : Nat) : Int) := by rw [w64s_ _ (by omega)]; omega
    have hil : i < x.ls.length := by omega
    have ihh := ih (i + 1) (by omega) (by omega)
    have hr := rdi_ hil
    rw [List.drop_eq_getElem_cons hil, List.any_cons]
    generalize x.ls[i]'hil = c at hr
    by_cases hk : x.k = 0
    · rw [decide_eq_true (.inr hk), Bool.and_true] at ihh ⊢
      by_cases h0 : c = 0
      · rw [show kindBad_ c = false by rw [h0]; rfl, Bool.false_or]
        refine Ev.step (fun k => ?_) ihh
        simp only [quillworkref06_May.l0]
        rw [if_pos (by omega), if_pos (by omega), hr, if_pos h0, if_pos hk, e3]
      · by_cases h1 : c = 1
        · rw [show kindBad_ c = false by rw [h1]; rfl, Bool.false_or]
          refine Ev.step (fun k => ?_) ihh
          simp only [quillworkref06_May.l0]
          rw [if_pos (by omega), if_pos (by omega), hr, if_neg h0, if_pos h1, if_pos hk, e3]
        · rw [show kindBad_ c = true by simp [kindBad_, h0, h1]]
          refine Ev.step (f := fun _ => some _) (fun k => ?_) (Ev.now _)
          simp only [quillworkref06_May.l0]
          rw [if_pos (by omega), if_pos (by omega), hr, if_neg h0, if_neg h1]
          rfl
    · rw [decide_eq_false (by omega), Bool.and_false, Bool.false_and]
      refine Ev.step (f := fun _ => some _) (fun k => ?_) (Ev.now _)
      simp only [quillworkref06_May.l0]
      rw [if_pos (by omega), if_pos (by omega), hr]
      by_cases h0 : c = 0
      · rw [if_pos h0, if_neg hk]
      · rw [if_neg h0]
        by_cases h1 : c = 1
        · rw [if_pos h1, if_neg hk]
        · rw [if_neg h1]
theorem ref_may_ (x : Ln) (hz : Sz x) : Ev (fun k => quillworkref06_May.f k x.q x.ls x.k x.cs) (mayL x) := by
  have hF : Ev (fun k => quillworkref06_May.j0 k true x.q x.ls x.k x.cs) false := by
    refine Ev.step (f := fun _ => some false) (fun k => ?_) (Ev.now _)
    simp only [quillworkref06_May.j0]
    rfl
  unfold quillworkref06_May.f mayL
  by_cases h1 : x.q < 0
  · rw [show decide (0 ≤ x.q ∧ x.q ≤ 6 ∧ x.ls.length ≤ 6 ∧ 0 ≤ x.k ∧ x.k ≤ 3 ∧ (x.ls.length = 0 ∨ x.k = 0)) = false from decide_eq_false (by omega), Bool.false_and]
    exact Ev.congr (fun k => if_pos h1) hF
  refine Ev.congr (fun k => if_neg h1) ?_
  by_cases h2 : x.q > 6
  · rw [show decide (0 ≤ x.q ∧ x.q ≤ 6 ∧ x.ls.length ≤ 6 ∧ 0 ≤ x.k ∧ x.k ≤ 3 ∧ (x.ls.length = 0 ∨ x.k = 0)) = false from decide_eq_false (by omega), Bool.false_and]
    exact Ev.congr (fun k => if_pos h2) hF
  refine Ev.congr (fun k => if_neg h2) ?_
  by_cases h3 : (x.ls.length : Int) > 6
  · rw [show decide (0 ≤ x.q ∧ x.q ≤ 6 ∧ x.ls.length ≤ 6 ∧ 0 ≤ x.k ∧ x.k ≤ 3 ∧ (x.ls.length = 0 ∨ x.k = 0)) = false from decide_eq_false (by omega), Bool.false_and]
    exact Ev.congr (fun k => if_pos h3) hF
  refine Ev.congr (fun k => if_neg h3) ?_
  by_cases h4 : x.k < 0
  · rw [show decide (0 ≤ x.q ∧ x.q ≤ 6 ∧ x.ls.length ≤ 6 ∧ 0 ≤ x.k ∧ x.k ≤ 3 ∧ (x.ls.length = 0 ∨ x.k = 0)) = false from decide_eq_false (by omega), Bool.false_and]
    exact Ev.congr (fun k => if_pos h4) hF
  refine Ev.congr (fun k => if_neg h4) ?_
  by_cases h5 : x.k > 3
  · rw [show decide (0 ≤ x.q ∧ x.q ≤ 6 ∧ x.ls.length ≤ 6 ∧ 0 ≤ x.k ∧ x.k ≤ 3 ∧ (x.ls.length = 0 ∨ x.k = 0)) = false from decide_eq_false (by omega), Bool.false_and, decide_eq_true h5]
    exact hF
  rw [decide_eq_false h5]
  have hK := ref_mayK_loop_ x hz (by omega) _ 0 rfl (Nat.zero_le _)
  refine Ev.step (f := fun k => quillworkref06_May.l0 k 0 x.q x.ls x.k x.cs) (fun k => ?_) ?_
  · simp only [quillworkref06_May.j0]
    rfl
  · have e : ((!((x.ls.drop 0).any kindBad_) && decide (0 = x.ls.length ∨ x.k = 0)) && !(x.cs.any bad_)) = (decide (0 ≤ x.q ∧ x.q ≤ 6 ∧ x.ls.length ≤ 6 ∧ 0 ≤ x.k ∧ x.k ≤ 3 ∧ (x.ls.length = 0 ∨ x.k = 0)) && (!(x.ls.any kindBad_) && !(x.cs.any bad_))) := by
      rw [show decide (0 ≤ x.q ∧ x.q ≤ 6 ∧ x.ls.length ≤ 6 ∧ 0 ≤ x.k ∧ x.k ≤ 3 ∧ (x.ls.length = 0 ∨ x.k = 0)) = decide (0 = x.ls.length ∨ x.k = 0) by rw [decide_eq_decide]; omega, List.drop_zero]
      cases (x.ls.any kindBad_) <;> cases (decide (0 = x.ls.length ∨ x.k = 0)) <;> cases (x.cs.any bad_) <;> rfl
    rw [← e]
    exact hK
/-- the reference's answer whether a line may be -/
theorem refmay_calls_ (x : Ln) (v : Value) (w : World) (hx : RdL w v x) (hz : Sz x) :
    Calls Tryd.prog 38 #[v] w fun e w' => e = .returned (.bool (mayL x)) ∧ Below w.heap.size w w' := by
  obtain ⟨_, _, rfl, ⟨A1, c1, rfl, h1, hc1⟩, ⟨A3, c3, rfl, h3, hc3⟩⟩ := hx
  obtain ⟨k, hk⟩ := (ref_may_ x hz).rounds
  exact quillworkref06_May.calls k _ _ _ _ _ _ _ _ _ w h1 hc1 h3 hc3 hk
theorem refown_calls_ (x : Ln) (v : Value) (w : World) (hx : RdL w v x) (hz : Sz x) :
    Calls Tryd.prog 26 #[v] w fun e w' => ∃ v1 v3 : Value, e = .returned (.agg #[.int .i64 x.q, v1, .int .i64 x.k, v3]) ∧ Kd.R (Kd.int .i64) 3 w' w.heap.size (fun _ => True) v1 x.ls ∧ Kd.R k71 71 w' w.heap.size (fun _ => True) v3 x.cs ∧ Below w.heap.size w w' := by
  obtain ⟨_, _, rfl, ⟨A1, c1, rfl, h1, hc1⟩, ⟨A3, c3, rfl, h3, hc3⟩⟩ := hx
  exact quillworkref06_Own.calls _ _ _ _ _ _ _ _ _ _ _ _ w h1 hc1 h3 hc3 (by
    unfold quillworkref06_Own.f quillworkref05_Own.f
    simp only [Option.bind_some, List.nil_append, List.length_nil]
    rw [if_pos (by have := hz.1; omega), if_pos (by have := hz.2.1; omega)]
    rfl)
end Go.Proofs.YtgdpknmffohhaaaDoor.Pl

namespace Go.Proofs.YtgdpknmffohhaaaDoor.Pl
open Go.RowKit Go.Proofs.YtgdpknmffohhaaaDoorW.PrintWords Go.Proofs.YtgdpknmffohhaaaDoorW.PrintLast Go.Proofs.YtgdpknmffohhaaaDoorW.PrintMore
attribute [local go_sem] max2_int min2_int max_two min_two max_three min_three max_four min_four   -- for this text's walks alone
set_option linter.unusedVariables false
set_option linter.unusedSimpArgs false

/-! ### quillworkref06_ints: function 80 -/
def quillworkref06_ints.l0 : Nat → List Int → List Int → Int → Option (Bool)
  | 0, _, _, _ => none
  | k + 1, x0, x1, x5 => if x5 < (x0.length : Int) then (if 0 ≤ x5 then (if x5 < (x1.length : Int) then (if (rd x0 x5) = (rd x1 x5) then (quillworkref06_ints.l0 k x0 x1 (wrap64 (x5 + 1))) else (some false)) else (none)) else (none)) else (some true)
def quillworkref06_ints.f (k : Nat) (l0 : List Int) (l1 : List Int) : Option (Bool) := if (l0.length : Int) = (l1.length : Int) then (quillworkref06_ints.l0 k l0 l1 0) else (some false)
set_option maxHeartbeats 8000000 in
set_option maxRecDepth 100000 in
theorem quillworkref06_ints.calls (k : Nat) (A0 : Option Addr) (c0 : Nat) (l0 : List Int) (A1 : Option Addr) (c1 : Nat) (l1 : List Int) (r : Bool) (w : World) (hr0 : Kd.C (Kd.int .i64) w A0 l0.length l0) (hc0 : l0.length ≤ c0) (hr1 : Kd.C (Kd.int .i64) w A1 l1.length l1) (hc1 : l1.length ≤ c1) (h : quillworkref06_ints.f k l0 l1 = some r) :
    Calls Tryd.prog 80 #[.slice A0 l0.length c0, .slice A1 l1.length c1] w fun e w' => e = .returned (.bool r) ∧ Drawn0 w w' := by
  have HR0 := Aside0.mk hr0
  have HC0 := Aside0.mk hc0
  clear hr0 hc0
  have HR1 := Aside0.mk hr1
  have HC1 := Aside0.mk hc1
  clear hr1 hc1
  have H : (if (l0.length : Int) = (l1.length : Int) then (quillworkref06_ints.l0 k l0 l1 0) else (some false)) = some r := h
  clear h
  by_cases c3 : (l0.length : Int) = (l1.length : Int)
  · rw [if_pos c3] at H
    have c3b0 : ((l0.length : Int) == (l1.length : Int)) = true := beq_iff_eq.mpr c3
    have c3b1 : ((l0.length : Int) != (l1.length : Int)) = false := bne_eq_false_iff_eq.mpr c3
    have c3b2 : (l0.length == l1.length) = true := by first | simpa using c3 | (simp at c3 ⊢; omega)
    clear c3
    have H' := Aside0.mk H
    clear H
    go_enter Tryd.func80, Tryd.ntmps80
    go_wp2
    repeat (go_quiet (fail); try go_wp2)
    go_loopg [5] k (fun kq v5 w' => ∃ (x5_1 : Int), v5 = .int .i64 x5_1 ∧ Aside0 (quillworkref06_ints.l0 kq l0 l1 x5_1 = some r) ∧ Aside0 (kq ≤ k) ∧ Drawn0 w w')
    case atStart => exact ⟨(0), (by first | rfl | (simp; done) | (simp [*]; done)), H', ⟨Nat.le_refl _⟩, by repeat (first | exact Drawn0.refl _ | apply Drawn0.step)⟩
    case round =>
      clear H'
      try clear c1
      try clear p2
      try clear c3
      try clear c3b0
      try clear c3b1
      try clear c3b2
      obtain ⟨x5_1, rfl, HA, HK1, ⟨m1, rfl⟩⟩ := hrel
      cases gk with
      | zero => exact absurd HA.out (by simp [quillworkref06_ints.l0])
      | succ k1 =>
        have H := HA.out
        clear HA
        simp only [quillworkref06_ints.l0] at H
        by_cases c4 : x5_1 < (l0.length : Int)
        · rw [if_pos c4] at H
          have c4b0 : decide (x5_1 < (l0.length : Int)) = true := decide_eq_true c4
          clear c4
          by_cases c5 : 0 ≤ x5_1
          · rw [if_pos c5] at H
            have c5b0 : decide (0 ≤ x5_1) = true := decide_eq_true c5
            clear c5
            by_cases c6 : x5_1 < (l1.length : Int)
            · rw [if_pos c6] at H
              have c6b0 : decide (x5_1 < (l1.length : Int)) = true := decide_eq_true c6
              clear c6
              by_cases c7 : (rd l0 x5_1) = (rd l1 x5_1)
              · rw [if_pos c7] at H
                have c7b0 : ((rd l0 x5_1) == (rd l1 x5_1)) = true := beq_iff_eq.mpr c7
                have c7b1 : ((rd l0 x5_1) != (rd l1 x5_1)) = false := bne_eq_false_iff_eq.mpr c7
                clear c7
                have H' := Aside0.mk H
                clear H
                have p426 : 0 ≤ (x5_1 : Int) := of_decide_eq_true (by first | (with_reducible assumption) | assumption)
                have q426 : x5_1 < (l0.length : Int) := of_decide_eq_true (by first | (with_reducible assumption) | assumption)
                obtain ⟨ad426, e426, hx426_0⟩ := Kd.at_int HR0.out x5_1 p426 q426
                cases e426
                replace p426 := eq_true p426
                replace q426 := eq_true q426
                have p427 : 0 ≤ (x5_1 : Int) := of_decide_eq_true (by first | (with_reducible assumption) | assumption)
                have q427 : x5_1 < (l1.length : Int) := of_decide_eq_true (by first | (with_reducible assumption) | assumption)
                obtain ⟨ad427, e427, hx427_0⟩ := Kd.at_int HR1.out x5_1 p427 q427
                cases e427
                replace p427 := eq_true p427
                replace q427 := eq_true q427
                go_wp2
                repeat (go_quiet (fail); try go_wp2)
                go_roundg k1
                case measure => have := HK1.out; omega
                case rel => exact ⟨(wrap64 (x5_1 + 1)), (by first | rfl | (simp; done) | (simp [*]; done)), H', ⟨by have := HK1.out; omega⟩, by repeat (first | exact Drawn0.refl _ | apply Drawn0.step)⟩
              · rw [if_neg c7] at H
                have c7b0 : ((rd l0 x5_1) == (rd l1 x5_1)) = false := beq_eq_false_iff_ne.mpr c7
                have c7b1 : ((rd l0 x5_1) != (rd l1 x5_1)) = true := bne_iff_ne.mpr c7
                obtain rfl := Option.some.inj H
                have p426 : 0 ≤ (x5_1 : Int) := of_decide_eq_true (by first | (with_reducible assumption) | assumption)
                have q426 : x5_1 < (l0.length : Int) := of_decide_eq_true (by first | (with_reducible assumption) | assumption)
                obtain ⟨ad426, e426, hx426_0⟩ := Kd.at_int HR0.out x5_1 p426 q426
                cases e426
                replace p426 := eq_true p426
                replace q426 := eq_true q426
                have p427 : 0 ≤ (x5_1 : Int) := of_decide_eq_true (by first | (with_reducible assumption) | assumption)
                have q427 : x5_1 < (l1.length : Int) := of_decide_eq_true (by first | (with_reducible assumption) | assumption)
                obtain ⟨ad427, e427, hx427_0⟩ := Kd.at_int HR1.out x5_1 p427 q427
                cases e427
                replace p427 := eq_true p427
                replace q427 := eq_true q427
                go_wp2
                repeat (go_quiet (fail); try go_wp2)
                go_ret
                exact ⟨by first | rfl | (simp; done) | (simp [*]; done), by repeat (first | exact Drawn0.refl _ | apply Drawn0.step)⟩
            · rw [if_neg c6] at H
              exact absurd H (by simp)
          · rw [if_neg c5] at H
            exact absurd H (by simp)
        · rw [if_neg c4] at H
          have c4b0 : decide (x5_1 < (l0.length : Int)) = false := decide_eq_false c4
          clear c4
          obtain rfl := Option.some.inj H
          go_wp2
          repeat (go_quiet (fail); try go_wp2)
          go_ret
          exact ⟨by first | rfl | (simp; done) | (simp [*]; done), by repeat (first | exact Drawn0.refl _ | apply Drawn0.step)⟩
  · rw [if_neg c3] at H
    have c3b0 : ((l0.length : Int) == (l1.length : Int)) = false := beq_eq_false_iff_ne.mpr c3
    have c3b1 : ((l0.length : Int) != (l1.length : Int)) = true := bne_iff_ne.mpr c3
    have c3b2 : (l0.length == l1.length) = false := by first | simpa using c3 | (simp at c3 ⊢; omega)
    obtain rfl := Option.some.inj H
    go_enter Tryd.func80, Tryd.ntmps80
    go_wp2
    repeat (go_quiet (fail); try go_wp2)
    go_ret
    exact ⟨by first | rfl | (simp; done) | (simp [*]; done), by repeat (first | exact Drawn0.refl _ | apply Drawn0.step)⟩

end Go.Proofs.YtgdpknmffohhaaaDoor.Pl
