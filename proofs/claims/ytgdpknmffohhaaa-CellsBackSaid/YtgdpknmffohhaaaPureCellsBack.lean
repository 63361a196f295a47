/- The plain law of CellsBack: what was put in, cut out again, leaves the row that there was; a row is its two parts. -/
import Derived.Test.YtgdpknmffohhaaaPr40
import Derived.Test.YtgdpknmffohhaaaPureLib
namespace Go.Proofs.Ytgdpknmffohhaaa.Pure
open Go.RowKit Go.Proofs.Ytgdpknmffohhaaa.Pr Go.Proofs.YtgdpknmffohhaaaW.PrintWords Go.Proofs.YtgdpknmffohhaaaW.PrintLast Go.Proofs.YtgdpknmffohhaaaW.PrintMore
theorem same_loop_ (l : List S30) (hL : l.length ≤ 1000000000) : ∀ (m i : Nat), l.length - i = m → i ≤ l.length → Ev (fun k => slices_Equal_Cell.l0 k l l (l.length : Int) (i : Int)) true := by
  intro m
  induction m with
  | zero =>
    intro i hm hi
    refine Ev.step (f := fun _ => some true) (fun k => ?_) (Ev.now _)
    simp only [slices_Equal_Cell.l0]
    rw [if_neg (by omega)]
  | succ m ih =>
    intro i hm hi
    refine Ev.step (fun k => ?_) (ih (i + 1) (by omega) (by omega))
    have e3 : wrap64 ((i : Int) + 1) = ((i + 1 : Nat) : Int) := by rw [w64_ _ (by omega)]; omega
    simp only [slices_Equal_Cell.l0]
    rw [if_pos (by omega), if_pos (by omega), if_pos (by omega), if_pos (by omega), if_neg (by simp), e3]
theorem same_ (l : List S30) (hL : l.length ≤ 1000000000) : Ev (fun k => cells_Same.f k l l) true := by
  unfold cells_Same.f
  refine Ev.bind ?_ (Ev.now _)
  unfold slices_Equal_Cell.f
  exact Ev.congr (fun k => if_pos rfl) (same_loop_ l hL _ 0 rfl (Nat.zero_le _))
theorem clone_ (l : List S30) (hL : l.length ≤ 1000000000) : slices_Clone_Cell.f l = some l := by
  unfold slices_Clone_Cell.f
  rw [if_pos (by omega)]
theorem part_ (l : List S30) (hL : l.length ≤ 1000000000) (a b : Nat) (h : a ≤ b) (h2 : b ≤ l.length) : cells_Part.f l (a : Int) (b : Int) = some ((l.take b).drop a, 0) := by
  unfold cells_Part.f cells_span.f
  rw [if_pos (by omega), if_pos (by omega)]
  have e : decide ((b : Int) ≤ (l.length : Int)) = true := decide_eq_true (by omega)
  rw [e, Option.bind_some, if_pos rfl, if_pos (by omega), if_pos (by omega), if_pos (by omega), Int.toNat_natCast, Int.toNat_natCast, clone_ _ (by rw [List.length_drop, List.length_take]; omega)]
  rfl
theorem cut_ (l : List S30) (hL : l.length ≤ 1000000000) (a b : Nat) (h : a ≤ b) (h2 : b ≤ l.length) : cells_Cut.f l (a : Int) (b : Int) = some (l.take a ++ l.drop b, 0) := by
  unfold cells_Cut.f
  rw [if_pos (by unfold spanned_; omega), if_pos (by omega), Int.toNat_natCast, Int.toNat_natCast]
theorem back_ (l more : List S30) (a : Int) (h1 : l.length ≤ 20000) (h2 : more.length ≤ 20000) : Ev (fun k => quillworklaw05_CellsBack.j0 k l more a false) true := by
  have haw := Ev.bind awake_ (Ev.now (true : Bool))
  by_cases ha : 0 ≤ a ∧ a ≤ (l.length : Int)
  · obtain ⟨n, rfl⟩ : ∃ n : Nat, a = (n : Int) := ⟨a.toNat, by omega⟩
    have hn : n ≤ l.length := by omega
    have hm : (l.take n ++ more ++ l.drop n).length = l.length + more.length := by simp; omega
    have eI : cells_Insert.f l (n : Int) more = some (l.take n ++ more ++ l.drop n, 0) := by
      unfold cells_Insert.f
      rw [if_pos ha, if_pos (by omega), Int.toNat_natCast]
    have eW : wrap64 ((n : Int) + (more.length : Int)) = ((n + more.length : Nat) : Int) := by rw [w64_ _ (by omega)]; omega
    have eP : cells_Part.f (l.take n ++ more ++ l.drop n) (n : Int) ((n + more.length : Nat) : Int) = some (more, 0) := by
      rw [part_ _ (by omega) _ _ (by omega) (by omega)]
      have e : (l.take n).length = n := by simp; omega
      have e2 : (l.take n ++ more).length = n + more.length := by simp; omega
      congr 2
      rw [show n + more.length = (l.take n ++ more).length from e2.symm, List.take_left]
      conv => lhs; arg 1; rw [← e]
      rw [List.drop_left]
    have eC : cells_Cut.f (l.take n ++ more ++ l.drop n) (n : Int) ((n + more.length : Nat) : Int) = some (l, 0) := by
      rw [cut_ _ (by omega) _ _ (by omega) (by omega)]
      have e : (l.take n).length = n := by simp; omega
      have e2 : (l.take n ++ more).length = n + more.length := by simp; omega
      congr 2
      rw [show n + more.length = (l.take n ++ more).length from e2.symm, List.drop_left, List.append_assoc]
      conv => lhs; arg 1; arg 1; rw [← e]
      rw [List.take_left, List.take_append_drop]
    have eA : cells_Part.f l 0 (n : Int) = some (l.take n, 0) := by
      have := part_ l (by omega) 0 n (Nat.zero_le _) hn
      simpa using this
    have eB : cells_Part.f l (n : Int) (l.length : Int) = some (l.drop n, 0) := by
      have := part_ l (by omega) n l.length hn (Nat.le_refl _)
      simpa using this
    refine Ev.step (f := fun k => (cells_Same.f k more more).bind fun t => if t = true then ((cells_Same.f k l l).bind fun t => if t = true then ((cells_Same.f k l l).bind fun t => if t = true then ((quillworklaw05_awake.f k).bind fun t => some t) else some false) else some false) else some false) (fun k => ?_)
      (Ev.bind (same_ more (by omega)) (Ev.congr (fun k => if_pos rfl) (Ev.bind (same_ l (by omega)) (Ev.congr (fun k => if_pos rfl) (Ev.bind (same_ l (by omega)) (Ev.congr (fun k => if_pos rfl) haw))))))
    simp only [quillworklaw05_CellsBack.j0]
    rw [if_neg (by decide), eI]
    simp only [Option.bind_some, eW, eP, eC, eA, eB, if_true, List.nil_append, List.length_nil, Nat.zero_add, List.take_append_drop]
    have g1 : (l.take n).length < 4398046511104 := by rw [List.length_take]; omega
    have g2 : (l.take n).length + (l.drop n).length < 4398046511104 := by rw [List.length_take, List.length_drop]; omega
    simp only [if_pos g1, if_pos g2]
  · have eI : cells_Insert.f l a more = some ([], 1) := by
      unfold cells_Insert.f
      rw [if_neg ha]
    refine Ev.step (f := fun k => (quillworklaw05_awake.f k).bind fun t => some t) (fun k => ?_) haw
    simp only [quillworklaw05_CellsBack.j0]
    rw [if_neg (by decide), eI]
    simp only [Option.bind_some]
    rw [if_neg (by decide)]
    by_cases h0 : a < 0
    · rw [if_pos h0, if_pos (by simp)]
    · rw [if_neg h0, if_pos (by omega), if_pos (by simp)]
theorem CellsBack (l more : List S30) (a : Int) (hl : ∀ x ∈ l, CellOk_ x) (hL : l.length ≤ 9223372036854775807) (hm : ∀ x ∈ more, CellOk_ x) (hM : more.length ≤ 9223372036854775807) (_ : (Lit.int .i64 a).wf = true) : ∃ k, quillworklaw05_CellsBack.f k l more a = some true := by
  refine Ev.rounds ?_
  obtain ⟨b, hb, hb2⟩ := long_ l hl hL
  obtain ⟨b', hb', hb2'⟩ := long_ more hm hM
  have haw : Ev (fun k => quillworklaw05_CellsBack.j0 k l more a true) true := by
    refine Ev.step (f := fun k => (quillworklaw05_awake.f k).bind fun t => some t) (fun k => ?_) (Ev.bind awake_ (Ev.now _))
    simp only [quillworklaw05_CellsBack.j0]
    rw [if_pos trivial]
  unfold quillworklaw05_CellsBack.f
  refine Ev.bind hb ?_
  cases b with
  | true => exact Ev.congr (fun k => if_pos rfl) haw
  | false =>
    refine Ev.congr (fun k => if_neg (by decide)) (Ev.bind hb' ?_)
    cases b' with
    | true => exact haw
    | false => exact back_ l more a (hb2 rfl) (hb2' rfl)
end Go.Proofs.Ytgdpknmffohhaaa.Pure
